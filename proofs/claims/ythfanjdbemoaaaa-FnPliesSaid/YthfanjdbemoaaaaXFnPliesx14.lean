/- The functions that the law FnPlies reaches: each as a Lean function, and that its call does what that function says; no conditions. -/
import Derived.Test.YthfanjdbemoaaaaXFnPliesx0
import Derived.Test.YthfanjdbemoaaaaXFnPliesx4
import Derived.Test.YthfanjdbemoaaaaXFnPliesx5
namespace Go.Proofs.Ythfanjdbemoaaaa.XFnPlies
open Go.RowKit Go.Proofs.YthfanjdbemoaaaaW.PrintWords Go.Proofs.YthfanjdbemoaaaaW.PrintLast Go.Proofs.YthfanjdbemoaaaaW.PrintMore
attribute [local go_sem] max2_int min2_int max_two min_two max_three min_three max_four min_four   -- for this text's walks alone
set_option linter.unusedVariables false
set_option linter.unusedSimpArgs false

/-- A state of type 78 at block g of W; what its slices lead to came in by w0. -/
def IsS78 (w0 W : World) (g : Nat) (f0 : List (S33)) (f1 : Int) (f2 : List Int) (f3 : Int) (f4 : Bool) : Prop := ∃ A0 c0, ∃ A2 c2, W.heap[g]? = some (.cells #[.slice A0 f0.length c0, .int .i64 f1, .slice A2 f2.length c2, .int .i64 f3, .bool f4] 78 (0, 0)) ∧ w0.heap.size ≤ g ∧ Kd.C k33 w0 A0 f0.length f0 ∧ Kd.C (Kd.int .i64) w0 A2 f2.length f2
theorem IsS78.grown {w0 W : World} {g : Nat} {f0 : List (S33)} {f1 : Int} {f2 : List Int} {f3 : Int} {f4 : Bool} {W1 : World} {row : Option Nat} (h : IsS78 w0 W g f0 f1 f2 f3 f4) (hw : W.grownBy W1 row) (hne : some g ≠ row) : IsS78 w0 W1 g f0 f1 f2 f3 f4 := by
  obtain ⟨A0, c0, A2, c2, hb, hg, hr0, hr2⟩ := h
  exact ⟨A0, c0, A2, c2, blk_grown hb hw hne, hg, hr0, hr2⟩
theorem IsS78.own_neN {w0 W : World} {g : Nat} {f0 : List (S33)} {f1 : Int} {f2 : List Int} {f3 : Int} {f4 : Bool} {α : Type} {d : Kd α} {e : Nat} {base : Nat} {ok : Nat → Prop} {v : Value} {xs : List α} (h : IsS78 w0 W g f0 f1 f2 f3 f4) (ho : Kd.N d e W base ok v xs) (ht : e ≠ 78) : some g ≠ v.ownBlock := by
  obtain ⟨A0, c0, A2, c2, hb, hg, hr0, hr2⟩ := h
  exact Kd.N_ne ho hb ht
theorem IsS78.fresh {w0 W : World} {g : Nat} {f0 : List (S33)} {f1 : Int} {f2 : List Int} {f3 : Int} {f4 : Bool} (h : IsS78 w0 W g f0 f1 f2 f3 f4) : ∀ k, W.heap.size ≤ k → k ≠ g := by
  obtain ⟨A0, c0, A2, c2, hb, hg, hr0, hr2⟩ := h
  exact Kd.freshB hb
theorem IsS78.kept {w0 W : World} {g : Nat} {f0 : List (S33)} {f1 : Int} {f2 : List Int} {f3 : Int} {f4 : Bool} {W1 : World} {S : Nat → Prop} (h : IsS78 w0 W g f0 f1 f2 f3 f4) (hk : Kept W W1 S) (hne : ¬ S g) : IsS78 w0 W1 g f0 f1 f2 f3 f4 := by
  obtain ⟨A0, c0, A2, c2, hb, hg, hr0, hr2⟩ := h
  exact ⟨A0, c0, A2, c2, blk_kept hb hk hne, hg, hr0, hr2⟩
theorem IsS78.below {w0 W : World} {g : Nat} {f0 : List (S33)} {f1 : Int} {f2 : List Int} {f3 : Int} {f4 : Bool} {W1 : World} (h : IsS78 w0 W g f0 f1 f2 f3 f4) (hw : Below W.heap.size W W1) : IsS78 w0 W1 g f0 f1 f2 f3 f4 := h.grown (grown_of_below hw none) (by simp)
theorem IsS78.alloc {w0 W : World} {g : Nat} {f0 : List (S33)} {f1 : Int} {f2 : List Int} {f3 : Int} {f4 : Bool} (h : IsS78 w0 W g f0 f1 f2 f3 f4) (o : Obj) : IsS78 w0 (W.alloc o) g f0 f1 f2 f3 f4 := h.below (below_alloc (Below.refl _ _) o)
theorem IsS78.drewN {w0 W : World} {g : Nat} {f0 : List (S33)} {f1 : Int} {f2 : List Int} {f3 : Int} {f4 : Bool} (h : IsS78 w0 W g f0 f1 f2 f3 f4) (m : Nat) : IsS78 w0 (W.drewN m) g f0 f1 f2 f3 f4 := h
theorem IsS78.drew {w0 W : World} {g : Nat} {f0 : List (S33)} {f1 : Int} {f2 : List Int} {f3 : Int} {f4 : Bool} (h : IsS78 w0 W g f0 f1 f2 f3 f4) : IsS78 w0 W.drew g f0 f1 f2 f3 f4 := h
theorem IsS78.at_ {w0 W : World} {g : Nat} {f0 : List (S33)} {f1 : Int} {f2 : List Int} {f3 : Int} {f4 : Bool} {w' : World} {m : Nat} (hq : W.drewN m = w') (h : IsS78 w0 W g f0 f1 f2 f3 f4) : IsS78 w0 w' g f0 f1 f2 f3 f4 := by subst hq; exact IsS78.drewN h m
theorem IsS78.apart {w0 W : World} {g : Nat} {f0 : List (S33)} {f1 : Int} {f2 : List Int} {f3 : Int} {f4 : Bool} {α : Type} {d : Kd α} {e : Nat} {base : Nat} {ok : Nat → Prop} {v : Value} {xs : List α} (h : IsS78 w0 W g f0 f1 f2 f3 f4) (ho : d.R e W base ok v xs) (ht : ∀ q, q ∈ e :: d.E → q ≠ 78) : d.R e W base (fun k => ok k ∧ k ≠ g) v xs := by
  obtain ⟨A0, c0, A2, c2, hb, hg, hr0, hr2⟩ := h
  exact Kd.R_types ho hb ht
theorem IsS78.own_ne {w0 W : World} {g : Nat} {f0 : List (S33)} {f1 : Int} {f2 : List Int} {f3 : Int} {f4 : Bool} {α : Type} {d : Kd α} {e : Nat} {base : Nat} {ok : Nat → Prop} {v : Value} {xs : List α} (h : IsS78 w0 W g f0 f1 f2 f3 f4) (ho : d.R e W base ok v xs) (ht : e ≠ 78) : some g ≠ v.ownBlock := by
  obtain ⟨A0, c0, A2, c2, hb, hg, hr0, hr2⟩ := h
  exact Kd.R_ne ho hb ht
theorem IsS78.apartQ {w0 W : World} {g : Nat} {f0 : List (S33)} {f1 : Int} {f2 : List Int} {f3 : Int} {f4 : Bool} {α : Type} {d : Kd α} {e : Nat} {base : Nat} {ok : Nat → Prop} {v : Value} {xs : List α} (h : IsS78 w0 W g f0 f1 f2 f3 f4) (ho : d.Q e W base ok v xs) (ht : ∀ q, q ∈ e :: d.E → q ≠ 78) : d.Q e W base (fun k => ok k ∧ k ≠ g) v xs := by
  obtain ⟨A0, c0, A2, c2, hb, hg, hr0, hr2⟩ := h
  exact Kd.Q_types ho hb ht
theorem IsS78.own_neQ {w0 W : World} {g : Nat} {f0 : List (S33)} {f1 : Int} {f2 : List Int} {f3 : Int} {f4 : Bool} {α : Type} {d : Kd α} {e : Nat} {base : Nat} {ok : Nat → Prop} {v : Value} {xs : List α} (h : IsS78 w0 W g f0 f1 f2 f3 f4) (ho : d.Q e W base ok v xs) (ht : e ≠ 78) : some g ≠ v.ownBlock := by
  obtain ⟨A0, c0, A2, c2, hb, hg, hr0, hr2⟩ := h
  exact Kd.Q_ne ho hb ht
theorem IsS78.apartS {w0 W : World} {g : Nat} {f0 : List (S33)} {f1 : Int} {f2 : List Int} {f3 : Int} {f4 : Bool} {α : Type} {d : Kd α} {e : Nat} {base : Nat} {ok : Nat → Prop} {v : Value} {xs : List α} (h : IsS78 w0 W g f0 f1 f2 f3 f4) (ho : d.S e W base ok v xs) (ht : ∀ q, q ∈ e :: d.E → q ≠ 78) : d.S e W base (fun k => ok k ∧ k ≠ g) v xs := by
  obtain ⟨A0, c0, A2, c2, hb, hg, hr0, hr2⟩ := h
  exact Kd.S_types ho hb ht
theorem IsS78.own_neS {w0 W : World} {g : Nat} {f0 : List (S33)} {f1 : Int} {f2 : List Int} {f3 : Int} {f4 : Bool} {α : Type} {d : Kd α} {e : Nat} {base : Nat} {ok : Nat → Prop} {v : Value} {xs : List α} (h : IsS78 w0 W g f0 f1 f2 f3 f4) (ho : d.S e W base ok v xs) (ht : e ≠ 78) : some g ≠ v.ownBlock := by
  obtain ⟨A0, c0, A2, c2, hb, hg, hr0, hr2⟩ := h
  exact Kd.S_ne ho hb ht
theorem IsS78.lt {w0 W : World} {g : Nat} {f0 : List (S33)} {f1 : Int} {f2 : List Int} {f3 : Int} {f4 : Bool} (h : IsS78 w0 W g f0 f1 f2 f3 f4) : g < W.heap.size := by
  obtain ⟨A0, c0, A2, c2, hb, hg, hr0, hr2⟩ := h
  exact blk_lt hb
theorem IsS78.ge {w0 W : World} {g : Nat} {f0 : List (S33)} {f1 : Int} {f2 : List Int} {f3 : Int} {f4 : Bool} (h : IsS78 w0 W g f0 f1 f2 f3 f4) : w0.heap.size ≤ g := by
  obtain ⟨A0, c0, A2, c2, hb, hg, hr0, hr2⟩ := h
  exact hg
theorem IsS78.ne_blk {w0 W : World} {g : Nat} {f0 : List (S33)} {f1 : Int} {f2 : List Int} {f3 : Int} {f4 : Bool} {a : Nat} {cs : Array Value} {t : TypeId} {fr : Nat × Nat} (h : IsS78 w0 W g f0 f1 f2 f3 f4) (hb2 : W.heap[a]? = some (.cells cs t fr)) (ht : t ≠ 78) : g ≠ a := by
  obtain ⟨A0, c0, A2, c2, hb, hg, hr0, hr2⟩ := h
  rintro rfl
  rw [hb] at hb2
  injection hb2 with hb2
  injection hb2 with _ ht2
  exact ht ht2.symm
theorem IsS78.far {w0 W : World} {g : Nat} {f0 : List (S33)} {f1 : Int} {f2 : List Int} {f3 : Int} {f4 : Bool} {p : Addr} (h : IsS78 w0 W g f0 f1 f2 f3 f4) (hne : g ≠ p.block) (u : Value) : IsS78 w0 (W.setCell p u) g f0 f1 f2 f3 f4 := by
  obtain ⟨A0, c0, A2, c2, hb, hg, hr0, hr2⟩ := h
  exact ⟨A0, c0, A2, c2, blk_far hb hne u, hg, hr0, hr2⟩
theorem cellS78_0 {W : World} {g : Nat} {A0 : Option Addr} {c0 : Nat} {A2 : Option Addr} {c2 : Nat} {f0 : List (S33)} {f1 : Int} {f2 : List Int} {f3 : Int} {f4 : Bool} (h : W.heap[g]? = some (.cells #[.slice A0 f0.length c0, .int .i64 f1, .slice A2 f2.length c2, .int .i64 f3, .bool f4] 78 (0, 0))) : W.cell? ⟨g, 0, none⟩ = some (.slice A0 f0.length c0) := (blk_cell h 0).trans rfl
theorem cellS78_1 {W : World} {g : Nat} {A0 : Option Addr} {c0 : Nat} {A2 : Option Addr} {c2 : Nat} {f0 : List (S33)} {f1 : Int} {f2 : List Int} {f3 : Int} {f4 : Bool} (h : W.heap[g]? = some (.cells #[.slice A0 f0.length c0, .int .i64 f1, .slice A2 f2.length c2, .int .i64 f3, .bool f4] 78 (0, 0))) : W.cell? ⟨g, 1, none⟩ = some (.int .i64 f1) := (blk_cell h 1).trans rfl
theorem IsS78.set_1 {w0 W : World} {g : Nat} {f0 : List (S33)} {f1 : Int} {f2 : List Int} {f3 : Int} {f4 : Bool} (h : IsS78 w0 W g f0 f1 f2 f3 f4) (x : Int) : IsS78 w0 (W.setCell ⟨g, 1, none⟩ (.int .i64 x)) g f0 x f2 f3 f4 := by
  obtain ⟨A0, c0, A2, c2, hb, hg, hr0, hr2⟩ := h
  exact ⟨A0, c0, A2, c2, by simpa using blk_set hb 1 (.int .i64 x), hg, hr0, hr2⟩
theorem cellS78_2 {W : World} {g : Nat} {A0 : Option Addr} {c0 : Nat} {A2 : Option Addr} {c2 : Nat} {f0 : List (S33)} {f1 : Int} {f2 : List Int} {f3 : Int} {f4 : Bool} (h : W.heap[g]? = some (.cells #[.slice A0 f0.length c0, .int .i64 f1, .slice A2 f2.length c2, .int .i64 f3, .bool f4] 78 (0, 0))) : W.cell? ⟨g, 2, none⟩ = some (.slice A2 f2.length c2) := (blk_cell h 2).trans rfl
theorem cellS78_3 {W : World} {g : Nat} {A0 : Option Addr} {c0 : Nat} {A2 : Option Addr} {c2 : Nat} {f0 : List (S33)} {f1 : Int} {f2 : List Int} {f3 : Int} {f4 : Bool} (h : W.heap[g]? = some (.cells #[.slice A0 f0.length c0, .int .i64 f1, .slice A2 f2.length c2, .int .i64 f3, .bool f4] 78 (0, 0))) : W.cell? ⟨g, 3, none⟩ = some (.int .i64 f3) := (blk_cell h 3).trans rfl
theorem IsS78.set_3 {w0 W : World} {g : Nat} {f0 : List (S33)} {f1 : Int} {f2 : List Int} {f3 : Int} {f4 : Bool} (h : IsS78 w0 W g f0 f1 f2 f3 f4) (x : Int) : IsS78 w0 (W.setCell ⟨g, 3, none⟩ (.int .i64 x)) g f0 f1 f2 x f4 := by
  obtain ⟨A0, c0, A2, c2, hb, hg, hr0, hr2⟩ := h
  exact ⟨A0, c0, A2, c2, by simpa using blk_set hb 3 (.int .i64 x), hg, hr0, hr2⟩
theorem cellS78_4 {W : World} {g : Nat} {A0 : Option Addr} {c0 : Nat} {A2 : Option Addr} {c2 : Nat} {f0 : List (S33)} {f1 : Int} {f2 : List Int} {f3 : Int} {f4 : Bool} (h : W.heap[g]? = some (.cells #[.slice A0 f0.length c0, .int .i64 f1, .slice A2 f2.length c2, .int .i64 f3, .bool f4] 78 (0, 0))) : W.cell? ⟨g, 4, none⟩ = some (.bool f4) := (blk_cell h 4).trans rfl
theorem IsS78.set_4 {w0 W : World} {g : Nat} {f0 : List (S33)} {f1 : Int} {f2 : List Int} {f3 : Int} {f4 : Bool} (h : IsS78 w0 W g f0 f1 f2 f3 f4) (x : Bool) : IsS78 w0 (W.setCell ⟨g, 4, none⟩ (.bool x)) g f0 f1 f2 f3 x := by
  obtain ⟨A0, c0, A2, c2, hb, hg, hr0, hr2⟩ := h
  exact ⟨A0, c0, A2, c2, by simpa using blk_set hb 4 (.bool x), hg, hr0, hr2⟩
theorem IsS78.new (w0 W : World) (A0 : Option Addr) (c0 : Nat) (A2 : Option Addr) (c2 : Nat) (f0 : List (S33)) (f1 : Int) (f2 : List Int) (f3 : Int) (f4 : Bool) (hB : Below w0.heap.size w0 W) (hr0 : Kd.C k33 w0 A0 f0.length f0) (hr2 : Kd.C (Kd.int .i64) w0 A2 f2.length f2) : IsS78 w0 (W.alloc (.cells #[.slice A0 f0.length c0, .int .i64 f1, .slice A2 f2.length c2, .int .i64 f3, .bool f4] 78)) W.heap.size f0 f1 f2 f3 f4 := ⟨A0, c0, A2, c2, by simpa using heap_alloc_new W _, hB.size, hr0, hr2⟩

/-! ### spec_l03Even_from: function 51 -/
mutual
/-- Goes on with the next yarn: best, least, found behind it. -/
def spec_l03Even_from.f (l : List S33) (plies : Int) : Nat → List Int → List Int → Int → List Int → Int → Bool → Option (List Int × Int × Bool)
  | 0, _, _, _, _, _, _ => none
  | k + 1, N, S, most, B, m, fd =>
    if fd = true ∧ most ≥ m then some (B, m, fd)
    else if N.length = l.length then (if N.length ≤ 1048576 then some (N, most, true) else none)
    else spec_l03Even_from.l0 l plies k N S most 0 B m fd
def spec_l03Even_from.l0 (l : List S33) (plies : Int) : Nat → List Int → List Int → Int → Int → List Int → Int → Bool → Option (List Int × Int × Bool)
  | 0, _, _, _, _, _, _, _ => none
  | k + 1, N, S, most, x, B, m, fd =>
    if x < plies then
      (if 0 ≤ x ∧ x < 6 ∧ N.length < l.length ∧ N.length ≤ 1048576 then
        (spec_l00Max.f most (wrap64 (rd S x + wrap64 (rd_T33 l (N.length : Int)).f0))).bind fun mo =>
          (spec_l03Even_from.f l plies k (N ++ [x]) (S.set x.toNat (wrap64 (rd S x + wrap64 (rd_T33 l (N.length : Int)).f0))) mo B m fd).bind fun r =>
            if rd S x = 0 then some r else spec_l03Even_from.l0 l plies k N S most (wrap64 (x + 1)) r.1 r.2.1 r.2.2
      else none)
    else some (B, m, fd)
end
theorem spec_l03Even_from.mono_l (l : List S33) (plies : Int) : ∀ k, (∀ N S mo B m fd, LeO (spec_l03Even_from.f l plies k N S mo B m fd) (spec_l03Even_from.f l plies (k + 1) N S mo B m fd)) ∧ (∀ N S mo x B m fd, LeO (spec_l03Even_from.l0 l plies k N S mo x B m fd) (spec_l03Even_from.l0 l plies (k + 1) N S mo x B m fd))
  | 0 => ⟨fun _ _ _ _ _ _ r h => by simp [spec_l03Even_from.f] at h, fun _ _ _ _ _ _ _ r h => by simp [spec_l03Even_from.l0] at h⟩
  | k + 1 => by
    obtain ⟨ih1, ih2⟩ := spec_l03Even_from.mono_l l plies k
    constructor
    · intro N S mo B m fd
      rw [spec_l03Even_from.f, spec_l03Even_from.f]
      repeat' first
        | exact ih2 _ _ _ _ _ _ _
        | (with_reducible exact LeO.refl _)
        | (with_reducible refine LeO.ite ?_ ?_)
        | (with_reducible refine LeO.bind ?_ (fun _ => ?_))
    · intro N S mo x B m fd
      rw [spec_l03Even_from.l0, spec_l03Even_from.l0]
      repeat' first
        | exact ih1 _ _ _ _ _ _
        | exact ih2 _ _ _ _ _ _ _
        | (with_reducible exact LeO.refl _)
        | (with_reducible refine LeO.ite ?_ ?_)
        | (with_reducible refine LeO.bind ?_ (fun _ => ?_))
theorem spec_l03Even_from.info : (Try.prog.info? 2).map (fun i => (i.zero, i.size, i.bytes)) = some (some (.int .i64 0), 1, 8) := by kernel_rfl
/-- The search's variable. -/
structure spec_l03Even_from.Inv (w W : World) (gw : Nat) (A0 : Option Addr) (c0 : Nat) (l : List S33) (plies : Int) (B : List Int) (m : Int) (fd : Bool) (vB : Value) : Prop where
  b : Below w.heap.size w W
  g : w.heap.size ≤ gw
  h : W.heap[gw]? = some (.cells #[.slice A0 l.length c0, .int .i64 plies, vB, .int .i64 m, .bool fd] 78 (0, 0))
  rb : Kd.R (Kd.int .i64) 2 W w.heap.size (fun _ => True) vB B
theorem spec_l03Even_from.Inv.next {w W W' : World} {gw : Nat} {A0 : Option Addr} {c0 : Nat} {l : List S33} {plies : Int} {B : List Int} {m : Int} {fd : Bool} {vB : Value} (h : spec_l03Even_from.Inv w W gw A0 c0 l plies B m fd vB) (hb : Below W.heap.size W W') : spec_l03Even_from.Inv w W' gw A0 c0 l plies B m fd vB :=
  ⟨below_then h.b h.b.size hb, h.g, blk_below h.h hb, Kd.R_below h.rb hb⟩
/-- A row of whole numbers that is read lies as it lay. -/
theorem spec_l03Even_from.keepC {W W' : World} {g : Nat} {A : Option Addr} {n : Nat} {xs : List Int} (hk : KeepBut W W' g none) (h : Kd.C (Kd.int .i64) W A n xs) (hne : ∀ ad, A = some ad → ad.block ≠ g) : Kd.C (Kd.int .i64) W' A n xs := by
  obtain ⟨h1, h2, h3⟩ := h
  refine ⟨h1, h2, fun hn => ?_⟩
  obtain ⟨ad, e, hc⟩ := h3 hn
  refine ⟨ad, e, fun j p hj => ?_⟩
  obtain ⟨c, a, b, d⟩ := hc j p hj
  exact ⟨c, a, b, fun i u hi => keep_cell hk (d i u hi) (by have q := hne ad e; unfold Addr.add; split <;> exact q)⟩
theorem spec_l03Even_from.keepA {w : World} {o : Obj} {a : Addr} {v : Value} (h : w.cell? a = some v) : (w.alloc o).cell? a = some v :=
  (((Below.refl w.heap.size w).alloc (Nat.le_refl _) o).cell (World.block_lt_of_cell? w a h)).trans h
theorem spec_l03Even_from.keepD {w : World} {a : Addr} {v : Value} (h : w.cell? a = some v) : w.drew.cell? a = some v := h
theorem spec_l03Even_from.keepN {W W1 W' : World} {g : Nat} {A : Option Addr} {n : Nat} {xs : List Int} (h : Kd.C (Kd.int .i64) W A n xs) (hb : Below W.heap.size W W1) (hk : KeepBut W1 W' g none) (hg : W.heap.size ≤ g) : Kd.C (Kd.int .i64) W' A n xs := by
  obtain ⟨h1, h2, h3⟩ := h
  refine ⟨h1, h2, fun hn => ?_⟩
  obtain ⟨ad, e, hc⟩ := h3 hn
  refine ⟨ad, e, fun j p hj => ?_⟩
  obtain ⟨c, a, b, d⟩ := hc j p hj
  refine ⟨c, a, b, fun i u hi => ?_⟩
  have hlt := World.block_lt_of_cell? W _ (d i u hi)
  exact keep_cell hk ((hb.cell hlt).trans (d i u hi)) (by omega)
/-- A literal row of whole numbers. -/
theorem spec_l03Even_from.lit {W : World} {base h : Nat} (xs : List Int) (hh : W.heap[h]? = some (.cells (xs.map (Value.int .i64)).toArray 2 (0, 0))) (hb : base ≤ h) (hl : xs.length ≤ 1048576) : Kd.R (Kd.int .i64) 2 W base (fun _ => True) (.slice (some ⟨h, 0, none⟩) xs.length xs.length) xs := by
  refine Kd.R_of_own ⟨?_, .inr ⟨h, xs.length, (xs.map (Value.int .i64)).toArray, ?_, hb, hh, ?_, ?_, ?_, ?_⟩⟩ (fun _ _ => trivial)
  · simp [encs]
  · simp
  · simp
  · simp [maxLen]; omega
  · simp
  · rw [List.take_of_length_le (by simp)]; simp [encs]
theorem spec_l03Even_from.top {w : World} {o : Obj} {g : Nat} (h : g = w.heap.size) : (w.alloc o).heap[g]? = some o := by
  subst h; exact blk_new w o
theorem spec_l03Even_from.app {ops : Array Oper} {o : Oper} {a : Act} {Q : Exit → Act → World → Prop} {Kc : Act → World → Prop} {w0 W : World} (hw : Region.wanted o (yielded ops a.tmps) = true) (s x : Operand) (ho : o.op = .call { callee := .builtin .append, args := #[s, x], argTypes := #[46, 46] }) (v : Value) (xs ys : List Int) (A : Option Addr) (m c : Nat) (hs : a.eval s = v) (hx : a.eval x = .slice A m c)
    (HO : Kd.R (Kd.int .i64) 2 W w0.heap.size (fun _ => True) v xs) (HR : Kd.C (Kd.int .i64) W A m ys) (HB : Below w0.heap.size w0 W) (hl : xs.length + m ≤ 1048600)
    (h : ∀ v1 w1, Kd.R (Kd.int .i64) 2 w1 w0.heap.size (fun _ => True) v1 (xs ++ ys) → Below w0.heap.size w0 w1 → W.grownBy w1 v.ownBlock → Kc (a.put o.dst v1) w1) :
    if Region.wanted o (yielded ops a.tmps) = true then Oper.wp Try.prog o a W Kc Q else Kc (a.put o.dst undef) W := by
  refine Kd.R_append_rows_step (Kd.int .i64) (w0 := w0) w0.heap.size hw s x 46 2 (.int .i64 0) 8 ho Try.underlying46 spec_l03Even_from.info rfl (by decide) (by omega) v xs ys A m c (fun _ => True) (fun _ => False) hs hx HO HR (fun _ _ h => h) (fun _ h => h.elim) (fun _ _ => trivial) HB HB.size (by omega) ?_
  intro v1 w1 ho hb hg hat
  exact h v1 w1 ho hb hg
theorem spec_l03Even_from.keepNN {w : World} {n : Nat} {a : Addr} {v : Value} (h : w.cell? a = some v) : (w.drewN n).cell? a = some v :=
  ((pw_below_drewN (Below.refl w.heap.size w) n).cell (World.block_lt_of_cell? w a h)).trans h
/-- A new best list is stored. -/
theorem spec_l03Even_from.Inv.store {w W : World} {gw : Nat} {A0 : Option Addr} {c0 : Nat} {l : List S33} {plies : Int} {B : List Int} {m : Int} {fd : Bool} {vB : Value} (h : spec_l03Even_from.Inv w W gw A0 c0 l plies B m fd vB) {v2 : Value} {B2 : List Int} (hr : Kd.R (Kd.int .i64) 2 W w.heap.size (fun _ => True) v2 B2) (x : Int) :
    spec_l03Even_from.Inv w (((W.setCell ⟨gw, 2, none⟩ v2).setCell ⟨gw, 3, none⟩ (.int .i64 x)).setCell ⟨gw, 4, none⟩ (.bool true)) gw A0 c0 l plies B2 x true v2 := by
  have mv : ∀ {V : World} {cs : Array Value} (j : Nat) (u : Value), V.heap[gw]? = some (.cells cs 78 (0, 0)) → Kd.R (Kd.int .i64) 2 V w.heap.size (fun _ => True) v2 B2 → Kd.R (Kd.int .i64) 2 (V.setCell ⟨gw, j, none⟩ u) w.heap.size (fun _ => True) v2 B2 := fun j u hb hx => Kd.R_mono (Kd.R_far (p := ⟨gw, j, none⟩) (Kd.R_types hx hb (by decide)) (fun _ hk => hk.2) _) (fun _ _ => trivial)
  have h1 := blk_put (cs' := #[.slice A0 l.length c0, .int .i64 plies, v2, .int .i64 m, .bool fd]) h.h 2 v2 rfl
  have h2 := blk_put (cs' := #[.slice A0 l.length c0, .int .i64 plies, v2, .int .i64 x, .bool fd]) h1 3 (.int .i64 x) rfl
  have h3 := blk_put (cs' := #[.slice A0 l.length c0, .int .i64 plies, v2, .int .i64 x, .bool true]) h2 4 (.bool true) rfl
  exact ⟨below_set (below_set (below_set h.b h.g) h.g) h.g, h.g, h3, mv 4 _ h2 (mv 3 _ h1 (mv 2 _ h.h hr))⟩
theorem spec_l03Even_from.Inv.keep {w W W' : World} {gw gn : Nat} {A0 : Option Addr} {c0 : Nat} {l : List S33} {plies : Int} {B : List Int} {m : Int} {fd : Bool} {vB : Value} (h : spec_l03Even_from.Inv w W gw A0 c0 l plies B m fd vB) (hk : KeepBut W W' gn none) (hb : Below w.heap.size w W') (hne : gw ≠ gn) (hv : some gn ≠ vB.ownBlock) : spec_l03Even_from.Inv w W' gw A0 c0 l plies B m fd vB :=
  ⟨hb, h.g, (hk.2 gw (blk_lt h.h) hne (by simp)).trans h.h, Kd.R_mono (Kd.R_keep (Kd.R_far1 h.rb rfl hv) hk (fun _ hk => hk.2)) (fun _ _ => trivial)⟩
/-- A cell of a box of whole numbers. -/
theorem spec_l03Even_from.cell {W : World} {g : Nat} {S : List Int} {t : TypeId} (h : W.heap[g]? = some (.cells (S.map (Value.int .i64)).toArray t (0, 0))) (x : Int) (h0 : 0 ≤ x) (h1 : x < (S.length : Int)) : W.cell? ⟨g, x.toNat, none⟩ = some (.int .i64 (rd S x)) := by
  have hl : x.toNat < S.length := by omega
  rw [blk_cell h x.toNat]
  unfold rd
  simp [List.getD, hl]
/-- Six cells are told. -/
theorem spec_l03Even_from.six {W : World} {gn : Nat} (h : W.heap[gn]? = some (.cells #[.int .i64 0, .int .i64 0, .int .i64 0, .int .i64 0, .int .i64 0, .int .i64 0] 80 (0, 0))) (s0 s1 s2 s3 s4 s5 : Int) :
    ((((((W.setCell ⟨gn, 0, none⟩ (.int .i64 s0)).setCell ⟨gn, 1, none⟩ (.int .i64 s1)).setCell ⟨gn, 2, none⟩ (.int .i64 s2)).setCell ⟨gn, 3, none⟩ (.int .i64 s3)).setCell ⟨gn, 4, none⟩ (.int .i64 s4)).setCell ⟨gn, 5, none⟩ (.int .i64 s5)).heap[gn]? = some (.cells (([s0, s1, s2, s3, s4, s5] : List Int).map (Value.int .i64)).toArray 80 (0, 0)) ∧ KeepBut W ((((((W.setCell ⟨gn, 0, none⟩ (.int .i64 s0)).setCell ⟨gn, 1, none⟩ (.int .i64 s1)).setCell ⟨gn, 2, none⟩ (.int .i64 s2)).setCell ⟨gn, 3, none⟩ (.int .i64 s3)).setCell ⟨gn, 4, none⟩ (.int .i64 s4)).setCell ⟨gn, 5, none⟩ (.int .i64 s5)) gn none ∧ ∀ w : World, Below w.heap.size w W → w.heap.size ≤ gn → Below w.heap.size w ((((((W.setCell ⟨gn, 0, none⟩ (.int .i64 s0)).setCell ⟨gn, 1, none⟩ (.int .i64 s1)).setCell ⟨gn, 2, none⟩ (.int .i64 s2)).setCell ⟨gn, 3, none⟩ (.int .i64 s3)).setCell ⟨gn, 4, none⟩ (.int .i64 s4)).setCell ⟨gn, 5, none⟩ (.int .i64 s5)) := by
  have a0 := blk_put (cs' := #[.int .i64 s0, .int .i64 0, .int .i64 0, .int .i64 0, .int .i64 0, .int .i64 0]) h 0 (.int .i64 s0) rfl
  have a1 := blk_put (cs' := #[.int .i64 s0, .int .i64 s1, .int .i64 0, .int .i64 0, .int .i64 0, .int .i64 0]) a0 1 (.int .i64 s1) rfl
  have a2 := blk_put (cs' := #[.int .i64 s0, .int .i64 s1, .int .i64 s2, .int .i64 0, .int .i64 0, .int .i64 0]) a1 2 (.int .i64 s2) rfl
  have a3 := blk_put (cs' := #[.int .i64 s0, .int .i64 s1, .int .i64 s2, .int .i64 s3, .int .i64 0, .int .i64 0]) a2 3 (.int .i64 s3) rfl
  have a4 := blk_put (cs' := #[.int .i64 s0, .int .i64 s1, .int .i64 s2, .int .i64 s3, .int .i64 s4, .int .i64 0]) a3 4 (.int .i64 s4) rfl
  have a5 := blk_put (cs' := #[.int .i64 s0, .int .i64 s1, .int .i64 s2, .int .i64 s3, .int .i64 s4, .int .i64 s5]) a4 5 (.int .i64 s5) rfl
  have e : (([s0, s1, s2, s3, s4, s5] : List Int).map (Value.int .i64)).toArray = #[.int .i64 s0, .int .i64 s1, .int .i64 s2, .int .i64 s3, .int .i64 s4, .int .i64 s5] := by simp
  rw [e]
  refine ⟨a5, KeepBut.set_ (KeepBut.set_ (KeepBut.set_ (KeepBut.set_ (KeepBut.set_ (KeepBut.set_ (KeepBut.refl W gn none) 0 _) 1 _) 2 _) 3 _) 4 _) 5 _, fun w hb hg => ?_⟩
  exact below_set (below_set (below_set (below_set (below_set (below_set hb hg) hg) hg) hg) hg) hg
set_option maxHeartbeats 8000000 in
set_option maxRecDepth 100000 in
theorem spec_l03Even_from.calls (w : World) (gw : Nat) (A0 : Option Addr) (c0 : Nat) (l : List S33) (plies : Int) (hC : Kd.C k33 w A0 l.length l) : ∀ (k : Nat) (An : Option Addr) (cn : Nat) (N S : List Int) (mo : Int) (B : List Int) (m : Int) (fd : Bool) (vB : Value) (W : World) (r1 : List Int) (r2 : Int) (r3 : Bool), spec_l03Even_from.Inv w W gw A0 c0 l plies B m fd vB → Kd.C (Kd.int .i64) W An N.length N → N.length ≤ cn → (∀ ad, An = some ad → ad.block ≠ gw) → S.length = 6 → spec_l03Even_from.f l plies k N S mo B m fd = some (r1, r2, r3) →
    Calls Try.prog 51 #[.pointer (some ⟨gw, 0, none⟩), .slice An N.length cn, .agg (S.map (Value.int .i64)).toArray, .int .i64 mo] W fun e w' => e = .returned (.tuple #[]) ∧ KeepBut W w' gw none ∧ ∃ vB2, spec_l03Even_from.Inv w w' gw A0 c0 l plies r1 r2 r3 vB2 := by
 intro k
 have HCC := Aside0.mk hC
 clear hC
 have hu1 := Try.underlying78
 have hu2 := Try.underlying80
 induction k using Nat.strongRecOn with
 | _ k IH =>
 intro An cn N S mo B m fd vB W r1 r2 r3 hI hN hcn hne hS h
 cases k with
 | zero => simp [spec_l03Even_from.f] at h
 | succ k =>
  have IHa := Aside0.mk IH
  clear IH
  rw [spec_l03Even_from.f] at h
  have HI := Aside0.mk hI
  have HN := Aside0.mk hN
  have HCN := Aside0.mk hcn
  have HNE := Aside0.mk hne
  clear hI hN hcn hne
  obtain ⟨s0, s1, s2, s3, s4, s5, rfl⟩ : ∃ a b c d e f, S = [a, b, c, d, e, f] := by
   match S, hS with
   | [a, b, c, d, e, f], _ => exact ⟨a, b, c, d, e, f, rfl⟩
  clear hS
  by_cases h1 : fd = true ∧ mo ≥ m
  · rw [if_pos h1] at h
    have e := Option.some.inj h
    simp only [Prod.mk.injEq] at e
    obtain ⟨rfl, rfl, rfl⟩ := e
    obtain ⟨rfl, h1b⟩ := h1
    have d3 : decide (m ≤ mo) = true := decide_eq_true h1b
    clear h
    go_enter Try.func51, Try.ntmps51
    go_wp2_with (first | ((with_reducible refine gate_dst (N := 6) rfl ?_); refine box_event ?hg (N := 6) ?hd (cs := #[.int .i64 s0, .int .i64 s1, .int .i64 s2, .int .i64 s3, .int .i64 s4, .int .i64 s5]) (t := 80) ?hr ?_; (case hd => rfl); (case hg => rfl); (case hr => first | (go_simp; done) | (go_simp; rfl)); intro gs hgs W1 hs1 hbb; have HS := Aside0.mk hs1; have HI1 := Aside0.mk (HI.out.next hbb); have HN1 := Aside0.mk (Kd.C_below HN.out hbb); have KP := Aside0.mk (KeepBut.of_below hbb gw none); have GS := Aside0.mk (show gw < gs ∧ W.heap.size ≤ gs from by rw [hgs]; exact ⟨blk_lt HI.out.h, Nat.le_refl _⟩); clear HI HN hs1 hbb hgs; have hq0 : W1.cell? ⟨gw, 0, none⟩ = some (.slice A0 l.length c0) := (blk_cell HI1.out.h 0).trans rfl; have hq1 : W1.cell? ⟨gw, 1, none⟩ = some (.int .i64 plies) := (blk_cell HI1.out.h 1).trans rfl; have hq3 : W1.cell? ⟨gw, 3, none⟩ = some (.int .i64 m) := (blk_cell HI1.out.h 3).trans rfl; have hq4 : W1.cell? ⟨gw, 4, none⟩ = some (.bool true) := (blk_cell HI1.out.h 4).trans rfl))
    refine bodyPost_ret (results_none rfl _ _ _) rfl ⟨rfl, KP.out, vB, HI1.out⟩
  rw [if_neg h1] at h
  by_cases h2 : N.length = l.length
  · rw [if_pos h2] at h
    by_cases h3 : N.length ≤ 1048576
    rotate_left
    · rw [if_neg h3] at h; cases h
    rw [if_pos h3] at h
    have e := Option.some.inj h
    simp only [Prod.mk.injEq] at e
    obtain ⟨rfl, rfl, rfl⟩ := e
    have H3 := Aside0.mk h3
    have e1 : ((N.length : Int) == (l.length : Int)) = true := by rw [h2]; exact beq_self_eq_true _
    have e2 : decide ((N.length : Int) = (l.length : Int)) = true := decide_eq_true (by rw [h2])
    have e3 : (N.length : Int) = (l.length : Int) := by rw [h2]
    have HH2 := Aside0.mk h2
    clear h h3 h2
    cases fd with
    | false =>
     clear h1 e3
     go_enter Try.func51, Try.ntmps51
     go_wp2_with (first | ((with_reducible refine gate_dst (N := 6) rfl ?_); refine box_event ?hg (N := 6) ?hd (cs := #[.int .i64 s0, .int .i64 s1, .int .i64 s2, .int .i64 s3, .int .i64 s4, .int .i64 s5]) (t := 80) ?hr ?_; (case hd => rfl); (case hg => rfl); (case hr => first | (go_simp; done) | (go_simp; rfl)); intro gs hgs W1 hs1 hbb; have HS := Aside0.mk hs1; have HI1 := Aside0.mk (HI.out.next hbb); have HN1 := Aside0.mk (Kd.C_below HN.out hbb); have KP := Aside0.mk (KeepBut.of_below hbb gw none); have GS := Aside0.mk (show gw < gs ∧ W.heap.size ≤ gs from by rw [hgs]; exact ⟨blk_lt HI.out.h, Nat.le_refl _⟩); clear HI HN hs1 hbb hgs; have hq0 : W1.cell? ⟨gw, 0, none⟩ = some (.slice A0 l.length c0) := (blk_cell HI1.out.h 0).trans rfl; have hq1 : W1.cell? ⟨gw, 1, none⟩ = some (.int .i64 plies) := (blk_cell HI1.out.h 1).trans rfl; have hq3 : W1.cell? ⟨gw, 3, none⟩ = some (.int .i64 m) := (blk_cell HI1.out.h 3).trans rfl; have hq4 : W1.cell? ⟨gw, 4, none⟩ = some (.bool false) := (blk_cell HI1.out.h 4).trans rfl) | ((with_reducible refine gate_dst (N := 31) rfl ?_); refine Kd.R_lit (Kd.int .i64) _ 2 ?hg (N := 31) ?hd (xs := ([] : List Int)) (inner := []) (ok := fun _ => True) (okp := fun _ => True) ?hr ?hp (fun _ hk => hk) trivial (Below.refl _ _) (Nat.le_refl _) (by simp) ?_; (case hd => rfl); (case hg => rfl); (case hr => first | (go_simp; done) | (go_simp; rfl)); (case hp => exact (Reps.none _ _)); intro v31 w3 ho3 hb3 hg_ hnew_; have HO3 := Aside0.mk ho3; have HB3 := Aside0.mk hb3; clear ho3 hb3 hg_ hnew_) | ((with_reducible refine gate_builtin (b := .append) (xs := #[.tmp 31, .tmp 32]) rfl ?_); at_builtin; refine Kd.R_append_rows (Kd.int .i64) (w0 := W1) W1.heap.size rfl (.tmp 31) (.tmp 32) 46 2 (.int .i64 0) 8 rfl Try.underlying46 spec_l03Even_from.info rfl (by decide) (by omega) v31 [] N _ _ _ (fun _ => True) (fun _ => False) rfl rfl ?aO ?aR (fun _ _ h => h) (fun _ h => h.elim) ?aF ?aB ?aS ?aL ?_; (case aR => exact Kd.C_below HN1.out HB3.out); (case aB => exact HB3.out); (case aF => exact (fun _ _ => trivial)); (case aO => exact HO3.out); (case aS => exact HB3.out.size); (case aL => have := H3.out; simp; omega); intro v33 w5 ho hb hg hat; rw [List.nil_append] at ho; have HI5 := Aside0.mk (HI1.out.next hb); have HO5 := Aside0.mk (Kd.R_lower ho HI1.out.b.size); have KP5 := Aside0.mk (KP.out.trans (KeepBut.of_below hb gw none) (.inl rfl)); clear ho hb hg hat; obtain ⟨A5, c5, e5⟩ := Kd.R_slice HO5.out; subst e5; have hw2 : w5.cell? ⟨gw, 2, none⟩ = some vB := (blk_cell HI5.out.h 2).trans rfl; have hw3 : w5.cell? ⟨gw, 3, none⟩ = some (.int .i64 m) := (blk_cell HI5.out.h 3).trans rfl; have hw4 : w5.cell? ⟨gw, 4, none⟩ = some (.bool false) := (blk_cell HI5.out.h 4).trans rfl; have hz2 := blk_frozen HI5.out.h 2; have hz3 := blk_frozen HI5.out.h 3; have hz4 := blk_frozen HI5.out.h 4))
     refine bodyPost_ret (results_none rfl _ _ _) rfl ⟨rfl, ?_, _, HI5.out.store HO5.out mo⟩
     exact ((KP5.out.set_ 2 _).set_ 3 _).set_ 4 _
    | true =>
     have hmm : ¬ m ≤ mo := fun z => h1 ⟨rfl, z⟩
     have d3 : decide (m ≤ mo) = false := decide_eq_false hmm
     clear h1 hmm e3
     go_enter Try.func51, Try.ntmps51
     go_wp2_with (first | ((with_reducible refine gate_dst (N := 6) rfl ?_); refine box_event ?hg (N := 6) ?hd (cs := #[.int .i64 s0, .int .i64 s1, .int .i64 s2, .int .i64 s3, .int .i64 s4, .int .i64 s5]) (t := 80) ?hr ?_; (case hd => rfl); (case hg => rfl); (case hr => first | (go_simp; done) | (go_simp; rfl)); intro gs hgs W1 hs1 hbb; have HS := Aside0.mk hs1; have HI1 := Aside0.mk (HI.out.next hbb); have HN1 := Aside0.mk (Kd.C_below HN.out hbb); have KP := Aside0.mk (KeepBut.of_below hbb gw none); have GS := Aside0.mk (show gw < gs ∧ W.heap.size ≤ gs from by rw [hgs]; exact ⟨blk_lt HI.out.h, Nat.le_refl _⟩); clear HI HN hs1 hbb hgs; have hq0 : W1.cell? ⟨gw, 0, none⟩ = some (.slice A0 l.length c0) := (blk_cell HI1.out.h 0).trans rfl; have hq1 : W1.cell? ⟨gw, 1, none⟩ = some (.int .i64 plies) := (blk_cell HI1.out.h 1).trans rfl; have hq3 : W1.cell? ⟨gw, 3, none⟩ = some (.int .i64 m) := (blk_cell HI1.out.h 3).trans rfl; have hq4 : W1.cell? ⟨gw, 4, none⟩ = some (.bool true) := (blk_cell HI1.out.h 4).trans rfl) | ((with_reducible refine gate_dst (N := 31) rfl ?_); refine Kd.R_lit (Kd.int .i64) _ 2 ?hg (N := 31) ?hd (xs := ([] : List Int)) (inner := []) (ok := fun _ => True) (okp := fun _ => True) ?hr ?hp (fun _ hk => hk) trivial (Below.refl _ _) (Nat.le_refl _) (by simp) ?_; (case hd => rfl); (case hg => rfl); (case hr => first | (go_simp; done) | (go_simp; rfl)); (case hp => exact (Reps.none _ _)); intro v31 w3 ho3 hb3 hg_ hnew_; have HO3 := Aside0.mk ho3; have HB3 := Aside0.mk hb3; clear ho3 hb3 hg_ hnew_) | ((with_reducible refine gate_builtin (b := .append) (xs := #[.tmp 31, .tmp 32]) rfl ?_); at_builtin; refine Kd.R_append_rows (Kd.int .i64) (w0 := W1) W1.heap.size rfl (.tmp 31) (.tmp 32) 46 2 (.int .i64 0) 8 rfl Try.underlying46 spec_l03Even_from.info rfl (by decide) (by omega) v31 [] N _ _ _ (fun _ => True) (fun _ => False) rfl rfl ?aO ?aR (fun _ _ h => h) (fun _ h => h.elim) ?aF ?aB ?aS ?aL ?_; (case aR => exact Kd.C_below HN1.out HB3.out); (case aB => exact HB3.out); (case aF => exact (fun _ _ => trivial)); (case aO => exact HO3.out); (case aS => exact HB3.out.size); (case aL => have := H3.out; simp; omega); intro v33 w5 ho hb hg hat; rw [List.nil_append] at ho; have HI5 := Aside0.mk (HI1.out.next hb); have HO5 := Aside0.mk (Kd.R_lower ho HI1.out.b.size); have KP5 := Aside0.mk (KP.out.trans (KeepBut.of_below hb gw none) (.inl rfl)); clear ho hb hg hat; obtain ⟨A5, c5, e5⟩ := Kd.R_slice HO5.out; subst e5; have hw2 : w5.cell? ⟨gw, 2, none⟩ = some vB := (blk_cell HI5.out.h 2).trans rfl; have hw3 : w5.cell? ⟨gw, 3, none⟩ = some (.int .i64 m) := (blk_cell HI5.out.h 3).trans rfl; have hw4 : w5.cell? ⟨gw, 4, none⟩ = some (.bool true) := (blk_cell HI5.out.h 4).trans rfl; have hz2 := blk_frozen HI5.out.h 2; have hz3 := blk_frozen HI5.out.h 3; have hz4 := blk_frozen HI5.out.h 4))
     refine bodyPost_ret (results_none rfl _ _ _) rfl ⟨rfl, ?_, _, HI5.out.store HO5.out mo⟩
     exact ((KP5.out.set_ 2 _).set_ 3 _).set_ 4 _
  rw [if_neg h2] at h
  have e1 : ((N.length : Int) == (l.length : Int)) = false := beq_eq_false_iff_ne.mpr (by omega)
  have e2 : decide ((N.length : Int) = (l.length : Int)) = false := decide_eq_false (by omega)
  have HL := Aside0.mk h
  clear h
  cases fd with
  | false =>
   clear h1
   go_enter Try.func51, Try.ntmps51
   go_wp2_with (first | ((with_reducible refine gate_dst (N := 6) rfl ?_); refine box_event ?hg (N := 6) ?hd (cs := #[.int .i64 s0, .int .i64 s1, .int .i64 s2, .int .i64 s3, .int .i64 s4, .int .i64 s5]) (t := 80) ?hr ?_; (case hd => rfl); (case hg => rfl); (case hr => first | (go_simp; done) | (go_simp; rfl)); intro gs hgs W1 hs1 hbb; have HS := Aside0.mk hs1; have HI1 := Aside0.mk (HI.out.next hbb); have HN1 := Aside0.mk (Kd.C_below HN.out hbb); have KP := Aside0.mk (KeepBut.of_below hbb gw none); have GS := Aside0.mk (show gw < gs ∧ W.heap.size ≤ gs from by rw [hgs]; exact ⟨blk_lt HI.out.h, Nat.le_refl _⟩); clear HI HN hs1 hbb hgs; have hq0 : W1.cell? ⟨gw, 0, none⟩ = some (.slice A0 l.length c0) := (blk_cell HI1.out.h 0).trans rfl; have hq1 : W1.cell? ⟨gw, 1, none⟩ = some (.int .i64 plies) := (blk_cell HI1.out.h 1).trans rfl; have hq3 : W1.cell? ⟨gw, 3, none⟩ = some (.int .i64 m) := (blk_cell HI1.out.h 3).trans rfl; have hq4 : W1.cell? ⟨gw, 4, none⟩ = some (.bool false) := (blk_cell HI1.out.h 4).trans rfl))
   clear hq0 hq1 hq3 hq4
   go_loopg [8] k (fun gq v8 W2 => ∃ (x : Int) (B1 : List Int) (m1 : Int) (fd1 : Bool) (vB1 : Value), v8 = .int .i64 x ∧ Aside0 (spec_l03Even_from.l0 l plies gq N [s0, s1, s2, s3, s4, s5] mo x B1 m1 fd1 = some (r1, r2, r3)) ∧ Aside0 (gq ≤ k) ∧ Aside0 (spec_l03Even_from.Inv w W2 gw A0 c0 l plies B1 m1 fd1 vB1) ∧ Aside0 (KeepBut W W2 gw none) ∧ Aside0 (W2.heap[gs]? = some (.cells #[.int .i64 s0, .int .i64 s1, .int .i64 s2, .int .i64 s3, .int .i64 s4, .int .i64 s5] 80 (0, 0))) ∧ Aside0 (Kd.C (Kd.int .i64) W2 An N.length N))
   case atStart => exact ⟨0, B, m, _, vB, rfl, HL, ⟨Nat.le_refl _⟩, HI1, KP, HS, HN1⟩
   case round =>
   clear HL HI1 KP HS HN1
   obtain ⟨x, B1, m1, fd1, vB1, rfl, HL, HK, HI2, KP2, HS2, HN2⟩ := hrel
   cases gk with
   | zero => exact absurd HL.out (by simp [spec_l03Even_from.l0])
   | succ g =>
    have H := HL.out
    rw [spec_l03Even_from.l0] at H
    clear HL
    have hp1 : wr.cell? ⟨gw, 1, none⟩ = some (.int .i64 plies) := (blk_cell HI2.out.h 1).trans rfl
    by_cases hx : x < plies
    rotate_left
    · rw [if_neg hx] at H
      have e := Option.some.inj H
      simp only [Prod.mk.injEq] at e
      obtain ⟨rfl, rfl, rfl⟩ := e
      clear H
      go_wp2
      refine bodyPost_end (results_none rfl _ _ _) rfl ⟨rfl, KP2.out, vB1, HI2.out⟩
    rw [if_pos hx] at H
    by_cases hg : 0 ≤ x ∧ x < 6 ∧ N.length < l.length ∧ N.length ≤ 1048576
    rotate_left
    · rw [if_neg hg] at H; cases H
    rw [if_pos hg] at H
    obtain ⟨g1, g2, g3, g4⟩ := hg
    obtain ⟨mo2, hmo, H⟩ := Option.bind_eq_some_iff.mp H
    obtain ⟨⟨B2, m2, fd2⟩, hput, H⟩ := Option.bind_eq_some_iff.mp H
    simp only at H
    have HP := Aside0.mk hput
    have HMO := Aside0.mk hmo
    have HR := Aside0.mk H
    clear H hput hmo
    have hs0 : wr.cell? ⟨gs, 0, none⟩ = some (.int .i64 s0) := (blk_cell HS2.out 0).trans rfl
    have hs1 : wr.cell? ⟨gs, 1, none⟩ = some (.int .i64 s1) := (blk_cell HS2.out 1).trans rfl
    have hs2 : wr.cell? ⟨gs, 2, none⟩ = some (.int .i64 s2) := (blk_cell HS2.out 2).trans rfl
    have hs3 : wr.cell? ⟨gs, 3, none⟩ = some (.int .i64 s3) := (blk_cell HS2.out 3).trans rfl
    have hs4 : wr.cell? ⟨gs, 4, none⟩ = some (.int .i64 s4) := (blk_cell HS2.out 4).trans rfl
    have hs5 : wr.cell? ⟨gs, 5, none⟩ = some (.int .i64 s5) := (blk_cell HS2.out 5).trans rfl
    go_upto_region 10 with (first | ((with_reducible refine gate_dst (N := 9) rfl ?_); refine box_event ?hg (N := 9) ?hd (cs := #[.int .i64 0, .int .i64 0, .int .i64 0, .int .i64 0, .int .i64 0, .int .i64 0]) (t := 80) ?hr ?_; (case hd => rfl); (case hg => rfl); (case hr => first | (go_simp; done) | (go_simp; rfl)); intro gn hgn w3 hn3 hbb; have HB3 := Aside0.mk hbb; have HX3 := Aside0.mk hn3; have GN := Aside0.mk (show gw < gn ∧ gs < gn ∧ wr.heap.size ≤ gn from by rw [hgn]; exact ⟨blk_lt HI2.out.h, blk_lt HS2.out, Nat.le_refl _⟩); clear hn3 hbb hgn; have hn0 : w3.cell? ⟨gn, 0, none⟩ = some (.int .i64 0) := (blk_cell HX3.out 0).trans rfl; have hf0 := blk_frozen HX3.out 0; have hn1 : w3.cell? ⟨gn, 1, none⟩ = some (.int .i64 0) := (blk_cell HX3.out 1).trans rfl; have hf1 := blk_frozen HX3.out 1; have hn2 : w3.cell? ⟨gn, 2, none⟩ = some (.int .i64 0) := (blk_cell HX3.out 2).trans rfl; have hf2 := blk_frozen HX3.out 2; have hn3 : w3.cell? ⟨gn, 3, none⟩ = some (.int .i64 0) := (blk_cell HX3.out 3).trans rfl; have hf3 := blk_frozen HX3.out 3; have hn4 : w3.cell? ⟨gn, 4, none⟩ = some (.int .i64 0) := (blk_cell HX3.out 4).trans rfl; have hf4 := blk_frozen HX3.out 4; have hn5 : w3.cell? ⟨gn, 5, none⟩ = some (.int .i64 0) := (blk_cell HX3.out 5).trans rfl; have hf5 := blk_frozen HX3.out 5))
    have SX := spec_l03Even_from.six HX3.out s0 s1 s2 s3 s4 s5
    have HI3 := Aside0.mk (HI2.out.next HB3.out)
    have HN3 := Aside0.mk (Kd.C_below HN2.out HB3.out)
    have HS3 := Aside0.mk (blk_below HS2.out HB3.out)
    have KP3 := Aside0.mk (KP2.out.trans (KeepBut.of_below HB3.out gw none) (.inl rfl))
    clear hn0 hn1 hn2 hn3 hn4 hn5 hf0 hf1 hf2 hf3 hf4 hf5 hs0 hs1 hs2 hs3 hs4 hs5 hp1
    generalize ((((((w3.setCell ⟨gn, 0, none⟩ (.int .i64 s0)).setCell ⟨gn, 1, none⟩ (.int .i64 s1)).setCell ⟨gn, 2, none⟩ (.int .i64 s2)).setCell ⟨gn, 3, none⟩ (.int .i64 s3)).setCell ⟨gn, 4, none⟩ (.int .i64 s4)).setCell ⟨gn, 5, none⟩ (.int .i64 s5)) = w4 at SX ⊢
    obtain ⟨hx4, hk4, hb4⟩ := SX
    have HX4 := Aside0.mk hx4
    have K4 := Aside0.mk hk4
    have NV := Aside0.mk (show some gn ≠ vB1.ownBlock from fun e => by have := Kd.R_lt HI2.out.rb gn e.symm; have := GN.out; omega)
    have HI4 := Aside0.mk (HI3.out.keep hk4 (hb4 w HI3.out.b (by have := GN.out; have := HI2.out.b.size; omega)) (by have := GN.out; omega) NV.out)
    have HS4 := Aside0.mk ((hk4.2 gs (blk_lt HS3.out) (by have := GN.out; omega) (by simp)).trans HS3.out)
    clear hx4 hk4 hb4
    have hcx := spec_l03Even_from.cell HX4.out x g1 (by simp; omega)
    have hq0 : w4.cell? ⟨gw, 0, none⟩ = some (.slice A0 l.length c0) := (blk_cell HI4.out.h 0).trans rfl
    obtain ⟨ady, ey, hy0, hy1, hy2⟩ := at_T33 (Kd.C_below HCC.out HI4.out.b) (N.length : Int) (by omega) (by omega)
    cases ey
    rw [Int.toNat_natCast] at hy0 hy1 hy2
    have gx6 : (x : Int) < 6 := g2
    have gnl : (N.length : Int) < (l.length : Int) := by omega
    have gn0 : (0 : Int) ≤ (N.length : Int) := by omega
    go_still_tail 15, (by kernel_rfl)
    change wpList _ _ _ _ _ (w4.drewN 1)
    have HX5 := Aside0.mk (blk_drewN HX4.out 1)
    have HI5 := Aside0.mk (HI4.out.next (pw_below_drewN (Below.refl _ _) 1))
    have HS5 := Aside0.mk (blk_drewN HS4.out 1)
    have K5 : Aside0 (KeepBut w3 (w4.drewN 1) gn none) := ⟨K4.out⟩
    clear hcx hq0 hy0 hy1 hy2 HX4 HI4 HS4 K4
    generalize w4.drewN 1 = w5 at *
    have hcx5 := spec_l03Even_from.cell HX5.out x g1 (by simp; omega)
    have hfx5 := blk_frozen HX5.out x.toNat
    go_upto_region 11 with (fail)
    have HX6 : Aside0 ((w5.setCell ⟨gn, x.toNat, none⟩ (.int .i64 (wrap64 (rd [s0, s1, s2, s3, s4, s5] x + wrap64 (rd_T33 l (N.length : Int)).f0)))).heap[gn]? = some (.cells ((([s0, s1, s2, s3, s4, s5] : List Int).set x.toNat (wrap64 (rd [s0, s1, s2, s3, s4, s5] x + wrap64 (rd_T33 l (N.length : Int)).f0))).map (Value.int .i64)).toArray 80 (0, 0))) := ⟨blk_put (cs := (([s0, s1, s2, s3, s4, s5] : List Int).map (Value.int .i64)).toArray) HX5.out x.toNat _ (by rw [List.map_set]; simp)⟩
    have K6 := Aside0.mk (K5.out.set_ x.toNat (.int .i64 (wrap64 (rd [s0, s1, s2, s3, s4, s5] x + wrap64 (rd_T33 l (N.length : Int)).f0))))
    have HI6 := Aside0.mk (HI5.out.keep ((KeepBut.refl w5 gn none).set_ x.toNat (.int .i64 (wrap64 (rd [s0, s1, s2, s3, s4, s5] x + wrap64 (rd_T33 l (N.length : Int)).f0)))) (below_set HI5.out.b (by have := GN.out; have := HI2.out.b.size; omega)) (by have := GN.out; omega) NV.out)
    have HS6 := Aside0.mk (blk_far HS5.out (p := ⟨gn, x.toNat, none⟩) (by have := GN.out; show gs ≠ gn; omega) (.int .i64 (wrap64 (rd [s0, s1, s2, s3, s4, s5] x + wrap64 (rd_T33 l (N.length : Int)).f0))))
    clear hcx5 hfx5 HX5 HI5 HS5 K5
    obtain ⟨t0, t1, t2, t3, t4, t5, hT⟩ : ∃ a b c d e f, ([s0, s1, s2, s3, s4, s5] : List Int).set x.toNat (wrap64 (rd [s0, s1, s2, s3, s4, s5] x + wrap64 (rd_T33 l (N.length : Int)).f0)) = [a, b, c, d, e, f] := by
     match ([s0, s1, s2, s3, s4, s5] : List Int).set x.toNat (wrap64 (rd [s0, s1, s2, s3, s4, s5] x + wrap64 (rd_T33 l (N.length : Int)).f0)), (List.length_set : (([s0, s1, s2, s3, s4, s5] : List Int).set x.toNat (wrap64 (rd [s0, s1, s2, s3, s4, s5] x + wrap64 (rd_T33 l (N.length : Int)).f0))).length = _) with
     | [a, b, c, d, e, f], _ => exact ⟨a, b, c, d, e, f, rfl⟩
    have hTx : rd ([s0, s1, s2, s3, s4, s5].set x.toNat (wrap64 (rd [s0, s1, s2, s3, s4, s5] x + wrap64 (rd_T33 l (N.length : Int)).f0))) x = (wrap64 (rd [s0, s1, s2, s3, s4, s5] x + wrap64 (rd_T33 l (N.length : Int)).f0)) := by
     have hl : x.toNat < ([s0, s1, s2, s3, s4, s5] : List Int).length := by simp; omega
     unfold rd
     rw [List.getD_eq_getElem?_getD, List.getElem?_set_self hl]; rfl
    rw [hT] at hTx
    have HP2 := HP.out
    rw [hT] at HP2
    have HX62 := HX6.out
    rw [hT] at HX62
    generalize w5.setCell ⟨gn, x.toNat, none⟩ (.int .i64 (wrap64 (rd [s0, s1, s2, s3, s4, s5] x + wrap64 (rd_T33 l (N.length : Int)).f0))) = w6 at *
    generalize (wrap64 (rd [s0, s1, s2, s3, s4, s5] x + wrap64 (rd_T33 l (N.length : Int)).f0)) = vv at *
    have HP3 := Aside0.mk HP2
    have HX7 := Aside0.mk HX62
    have HTx := Aside0.mk hTx
    clear HP2 HX62 HX6 HP hT hTx
    have HN6 := Aside0.mk (spec_l03Even_from.keepN HN2.out HB3.out K6.out GN.out.2.2)
    have KP6 : Aside0 (KeepBut W w6 gw none) := ⟨⟨Nat.le_trans KP3.out.1 K6.out.1, fun i hi hne hr => (K6.out.2 i (Nat.lt_of_lt_of_le hi KP3.out.1) (by have := GN.out; have := KP2.out.1; omega) hr).trans (KP3.out.2 i hi hne hr)⟩⟩
    clear K6 HB3 HN3 KP3 HS3 HI3 HX3
    go_cut [8] (fun v8 wc => ∃ (vB2 : Value), v8 = .int .i64 x ∧ Aside0 (spec_l03Even_from.Inv w wc gw (some ady) c0 l plies B2 m2 fd2 vB2) ∧ Aside0 (KeepBut W wc gw none) ∧ Aside0 (wc.heap[gs]? = some (.cells #[.int .i64 s0, .int .i64 s1, .int .i64 s2, .int .i64 s3, .int .i64 s4, .int .i64 s5] 80 (0, 0))) ∧ Aside0 (Kd.C (Kd.int .i64) wc An N.length N))
    case first =>
     as_aux_lemma =>
     have ht0 : w6.cell? ⟨gn, 0, none⟩ = some (.int .i64 t0) := (blk_cell HX7.out 0).trans rfl
     have ht1 : w6.cell? ⟨gn, 1, none⟩ = some (.int .i64 t1) := (blk_cell HX7.out 1).trans rfl
     have ht2 : w6.cell? ⟨gn, 2, none⟩ = some (.int .i64 t2) := (blk_cell HX7.out 2).trans rfl
     have ht3 : w6.cell? ⟨gn, 3, none⟩ = some (.int .i64 t3) := (blk_cell HX7.out 3).trans rfl
     have ht4 : w6.cell? ⟨gn, 4, none⟩ = some (.int .i64 t4) := (blk_cell HX7.out 4).trans rfl
     have ht5 : w6.cell? ⟨gn, 5, none⟩ = some (.int .i64 t5) := (blk_cell HX7.out 5).trans rfl
     have htx : w6.cell? ⟨gn, x.toNat, none⟩ = some (.int .i64 vv) := by
      have z := spec_l03Even_from.cell HX7.out x g1 (by simp; omega)
      rw [HTx.out] at z
      exact z
     have hlt6 : gn < w6.heap.size := blk_lt HX7.out
     go_region_held3 (fun w' => w'.cell? ⟨gn, 0, none⟩ = some (.int .i64 t0) ∧ w'.cell? ⟨gn, 1, none⟩ = some (.int .i64 t1) ∧ w'.cell? ⟨gn, 2, none⟩ = some (.int .i64 t2) ∧ w'.cell? ⟨gn, 3, none⟩ = some (.int .i64 t3) ∧ w'.cell? ⟨gn, 4, none⟩ = some (.int .i64 t4) ∧ w'.cell? ⟨gn, 5, none⟩ = some (.int .i64 t5) ∧ w'.cell? ⟨gn, x.toNat, none⟩ = some (.int .i64 vv)) ((repeat' (with_reducible refine And.intro ?_ ?_)) <;> ((repeat (first | (with_reducible refine spec_l03Even_from.keepD ?_) | (with_reducible refine spec_l03Even_from.keepA ?_) | (with_reducible refine spec_l03Even_from.keepNN ?_))); (try (first | (with_reducible refine (HT9.out _).trans ?_) | (with_reducible refine (HB73.out.cell hlt6).trans ?_) | (with_reducible refine (HB70.out.cell hlt6).trans ?_))); (first | (with_reducible exact ht0) | (with_reducible exact ht1) | (with_reducible exact ht2) | (with_reducible exact ht3) | (with_reducible exact ht4) | (with_reducible exact ht5) | (with_reducible exact htx)))) (first | (refine spec_l03Even_from.app (w0 := w6) ?hw (.tmp 68) (.tmp 69) rfl (.slice (some ⟨w6.heap.size, 0, none⟩) 0 0) [] N _ _ _ rfl rfl ?aO ?aR ?aB ?aL ?_; (case hw => rfl); (case aO => (refine spec_l03Even_from.lit [] ?_ ?_ (Nat.zero_le _)); ((repeat (first | exact spec_l03Even_from.top rfl | exact spec_l03Even_from.top (by simp) | (with_reducible refine blk_drew ?_) | (with_reducible refine blk_alloc ?_ _)))); (omega)); (case aR => (refine Kd.C_below HN6.out ?_); (repeat (first | exact Below.refl _ _ | (with_reducible refine below_drew1 ?_) | (with_reducible refine below_alloc ?_ _) | (with_reducible refine pw_below_drewN ?_ _)))); (case aB => (repeat (first | exact Below.refl _ _ | (with_reducible refine below_drew1 ?_) | (with_reducible refine below_alloc ?_ _) | (with_reducible refine pw_below_drewN ?_ _)))); (case aL => simp; omega); intro v70 w70 ho hb hg; rw [List.nil_append] at ho; have HO70 := Aside0.mk ho; have HB70 := Aside0.mk hb; have HG70 := Aside0.mk hg; clear ho hb hg) | (refine spec_l03Even_from.app (w0 := w6) ?hw (.tmp 68) (.tmp 69) rfl (.slice (some ⟨w6.heap.size + 1, 0, none⟩) 0 0) [] N _ _ _ rfl rfl ?aO ?aR ?aB ?aL ?_; (case hw => rfl); (case aO => (refine spec_l03Even_from.lit [] ?_ ?_ (Nat.zero_le _)); ((repeat (first | exact spec_l03Even_from.top rfl | exact spec_l03Even_from.top (by simp) | (with_reducible refine blk_drew ?_) | (with_reducible refine blk_alloc ?_ _)))); (omega)); (case aR => (refine Kd.C_below HN6.out ?_); (repeat (first | exact Below.refl _ _ | (with_reducible refine below_drew1 ?_) | (with_reducible refine below_alloc ?_ _) | (with_reducible refine pw_below_drewN ?_ _)))); (case aB => (repeat (first | exact Below.refl _ _ | (with_reducible refine below_drew1 ?_) | (with_reducible refine below_alloc ?_ _) | (with_reducible refine pw_below_drewN ?_ _)))); (case aL => simp; omega); intro v70 w70 ho hb hg; rw [List.nil_append] at ho; have HO70 := Aside0.mk ho; have HB70 := Aside0.mk hb; have HG70 := Aside0.mk hg; clear ho hb hg) | (refine spec_l03Even_from.app (w0 := w6) ?hw (.tmp 70) (.tmp 72) rfl v70 N [x] _ _ _ rfl rfl ?bO ?bR ?bB ?bL ?_; (case hw => rfl); (case bO => (refine Kd.R_below HO70.out ?_); (repeat (first | exact Below.refl _ _ | (with_reducible refine below_drew1 ?_) | (with_reducible refine below_alloc ?_ _) | (with_reducible refine pw_below_drewN ?_ _)))); (case bR => (refine (Kd.R_reads' (spec_l03Even_from.lit (base := 0) [x] ?_ (Nat.zero_le _) (by simp))).2.2); ((repeat (first | exact spec_l03Even_from.top rfl | exact spec_l03Even_from.top (by simp) | (with_reducible refine blk_drew ?_) | (with_reducible refine blk_alloc ?_ _))); done)); (case bB => (repeat (first | exact HB70.out | exact Below.refl _ _ | (with_reducible refine below_drew1 ?_) | (with_reducible refine below_alloc ?_ _) | (with_reducible refine pw_below_drewN ?_ _)))); (case bL => simp; omega); intro v73 w73 ho hb hg; have HO73 := Aside0.mk ho; have HB73 := Aside0.mk hb; clear ho hb hg) | (refine spec_l03Even_from.app (w0 := w6) ?hw (.tmp 70) (.tmp 72) rfl v70 N [x] _ _ _ rfl rfl ?bO ?bR ?bB ?bL ?_; (case hw => rfl); (case bO => (refine Kd.R_below HO70.out ?_); (repeat (first | exact Below.refl _ _ | (with_reducible refine below_drew1 ?_) | (with_reducible refine below_alloc ?_ _) | (with_reducible refine pw_below_drewN ?_ _)))); (case bR => (refine (Kd.R_reads' (spec_l03Even_from.lit (base := 0) [x] ?_ (Nat.zero_le _) (by simp))).2.2); ((repeat (with_reducible refine blk_drew ?_)); (refine (HG70.out.block _ ?_ ?_).trans ?_); rotate_left 2; ((repeat (first | exact spec_l03Even_from.top rfl | exact spec_l03Even_from.top (by simp) | (with_reducible refine blk_drew ?_) | (with_reducible refine blk_alloc ?_ _)))); (focus (first | (simp; done) | (simp; omega) | trace_state)); (focus (first | (simp [Value.ownBlock]; done) | (simp [Value.ownBlock]; omega) | trace_state)))); (case bB => (repeat (first | exact HB70.out | exact Below.refl _ _ | (with_reducible refine below_drew1 ?_) | (with_reducible refine below_alloc ?_ _) | (with_reducible refine pw_below_drewN ?_ _)))); (case bL => simp; omega); intro v73 w73 ho hb hg; have HO73 := Aside0.mk ho; have HB73 := Aside0.mk hb; clear ho hb hg) | (go_at_call 64; refine (spec_l00Max.calls mo vv mo2 _ HMO.out).mono ?_; rintro e w' ⟨rfl, ⟨nd, rfl⟩⟩) | (go_at_call 51; obtain ⟨A7, c7, e7, hc7, hC7⟩ := Kd.R_reads HO73.out; subst e7; refine (IHa.out g (by have := HK.out; omega) A7 c7 (N ++ [x]) [t0, t1, t2, t3, t4, t5] mo2 B1 m1 fd1 vB1 _ B2 m2 fd2 (HI6.out.next (by (repeat (first | exact HB73.out | exact Below.refl _ _ | (with_reducible refine below_drew1 ?_) | (with_reducible refine below_alloc ?_ _) | (with_reducible refine pw_below_drewN ?_ _))))) (Kd.C_below hC7 (by (repeat (first | exact Below.refl _ _ | (with_reducible refine below_drew1 ?_) | (with_reducible refine below_alloc ?_ _) | (with_reducible refine pw_below_drewN ?_ _))))) hc7 (fun ad e => by subst e; have q := Kd.R_base HO73.out ad.block rfl; have := blk_lt HX7.out; have := GN.out; omega) rfl HP3.out).mono ?_; rintro e w' ⟨rfl, hk, vB2, hI⟩; have HI9 := Aside0.mk hI; have KP9 := Aside0.mk ((KP6.out.trans (KeepBut.of_below (by (repeat (first | exact HB73.out | exact Below.refl _ _ | (with_reducible refine below_drew1 ?_) | (with_reducible refine below_alloc ?_ _) | (with_reducible refine pw_below_drewN ?_ _)))) gw none) (.inl rfl)).trans hk (.inl rfl)); have HS9 := Aside0.mk ((hk.2 gs (blk_lt (blk_below HS6.out (by (repeat (first | exact HB73.out | exact Below.refl _ _ | (with_reducible refine below_drew1 ?_) | (with_reducible refine below_alloc ?_ _) | (with_reducible refine pw_below_drewN ?_ _)))))) (by have := GS.out; omega) (by simp)).trans (blk_below HS6.out (by (repeat (first | exact HB73.out | exact Below.refl _ _ | (with_reducible refine below_drew1 ?_) | (with_reducible refine below_alloc ?_ _) | (with_reducible refine pw_below_drewN ?_ _)))))); have HN9 := Aside0.mk (spec_l03Even_from.keepC hk (Kd.C_below HN6.out (by (repeat (first | exact HB73.out | exact Below.refl _ _ | (with_reducible refine below_drew1 ?_) | (with_reducible refine below_alloc ?_ _) | (with_reducible refine pw_below_drewN ?_ _))))) HNE.out); have HT9 : Aside0 (∀ j : Nat, w'.cell? ⟨gn, j, none⟩ = w6.cell? ⟨gn, j, none⟩) := ⟨fun j => (World.cell?_of_block (hk.2 gn (blk_lt (blk_below HX7.out (by (repeat (first | exact HB73.out | exact Below.refl _ _ | (with_reducible refine below_drew1 ?_) | (with_reducible refine below_alloc ?_ _) | (with_reducible refine pw_below_drewN ?_ _)))))) (by have := GN.out; omega) (by simp))).trans (Below.cell (show Below w6.heap.size w6 _ from by (repeat (first | exact HB73.out | exact Below.refl _ _ | (with_reducible refine below_drew1 ?_) | (with_reducible refine below_alloc ?_ _) | (with_reducible refine pw_below_drewN ?_ _)))) hlt6)⟩; clear hk hI))
     all_goals
      (try go_wp2)
      go_meet
      case rel => exact ⟨_, rfl, HI9, KP9, HS9, HN9⟩
    case rest =>
    as_aux_lemma =>
    clear HX7 HI6 HS6 KP6 HN6
    obtain ⟨vB2, rfl, HI10, KP10, HS10, HN10⟩ := hcut
    have hcx : wc.cell? ⟨gs, x.toNat, none⟩ = some (.int .i64 (rd [s0, s1, s2, s3, s4, s5] x)) := spec_l03Even_from.cell (S := [s0, s1, s2, s3, s4, s5]) HS10.out x g1 (by simp; omega)
    have H := HR.out
    clear HR
    by_cases hz : rd [s0, s1, s2, s3, s4, s5] x = 0
    · rw [if_pos hz] at H
      have e := Option.some.inj H
      simp only [Prod.mk.injEq] at e
      obtain ⟨rfl, rfl, rfl⟩ := e
      have hz1 : (rd [s0, s1, s2, s3, s4, s5] x == 0) = true := beq_iff_eq.mpr hz
      clear H
      go_wp2
      refine bodyPost_ret (results_none rfl _ _ _) rfl ⟨rfl, KP10.out, vB2, HI10.out⟩
    rw [if_neg hz] at H
    have hz1 : (rd [s0, s1, s2, s3, s4, s5] x == 0) = false := beq_eq_false_iff_ne.mpr hz
    have hwx : wrap64 (x + 1) = x + 1 := by unfold wrap64; omega
    rw [hwx] at H
    have HL := Aside0.mk H
    clear H hwx
    go_wp2
    go_roundg g
    case measure => omega
    case rel => exact ⟨_, B2, m2, fd2, vB2, rfl, HL, ⟨by have := HK.out; omega⟩, HI10, KP10, HS10, HN10⟩
  | true =>
   have hmm : ¬ m ≤ mo := fun z => h1 ⟨rfl, z⟩
   have d3 : decide (m ≤ mo) = false := decide_eq_false hmm
   clear h1 hmm
   go_enter Try.func51, Try.ntmps51
   go_wp2_with (first | ((with_reducible refine gate_dst (N := 6) rfl ?_); refine box_event ?hg (N := 6) ?hd (cs := #[.int .i64 s0, .int .i64 s1, .int .i64 s2, .int .i64 s3, .int .i64 s4, .int .i64 s5]) (t := 80) ?hr ?_; (case hd => rfl); (case hg => rfl); (case hr => first | (go_simp; done) | (go_simp; rfl)); intro gs hgs W1 hs1 hbb; have HS := Aside0.mk hs1; have HI1 := Aside0.mk (HI.out.next hbb); have HN1 := Aside0.mk (Kd.C_below HN.out hbb); have KP := Aside0.mk (KeepBut.of_below hbb gw none); have GS := Aside0.mk (show gw < gs ∧ W.heap.size ≤ gs from by rw [hgs]; exact ⟨blk_lt HI.out.h, Nat.le_refl _⟩); clear HI HN hs1 hbb hgs; have hq0 : W1.cell? ⟨gw, 0, none⟩ = some (.slice A0 l.length c0) := (blk_cell HI1.out.h 0).trans rfl; have hq1 : W1.cell? ⟨gw, 1, none⟩ = some (.int .i64 plies) := (blk_cell HI1.out.h 1).trans rfl; have hq3 : W1.cell? ⟨gw, 3, none⟩ = some (.int .i64 m) := (blk_cell HI1.out.h 3).trans rfl; have hq4 : W1.cell? ⟨gw, 4, none⟩ = some (.bool true) := (blk_cell HI1.out.h 4).trans rfl))
   clear hq0 hq1 hq3 hq4
   go_loopg [8] k (fun gq v8 W2 => ∃ (x : Int) (B1 : List Int) (m1 : Int) (fd1 : Bool) (vB1 : Value), v8 = .int .i64 x ∧ Aside0 (spec_l03Even_from.l0 l plies gq N [s0, s1, s2, s3, s4, s5] mo x B1 m1 fd1 = some (r1, r2, r3)) ∧ Aside0 (gq ≤ k) ∧ Aside0 (spec_l03Even_from.Inv w W2 gw A0 c0 l plies B1 m1 fd1 vB1) ∧ Aside0 (KeepBut W W2 gw none) ∧ Aside0 (W2.heap[gs]? = some (.cells #[.int .i64 s0, .int .i64 s1, .int .i64 s2, .int .i64 s3, .int .i64 s4, .int .i64 s5] 80 (0, 0))) ∧ Aside0 (Kd.C (Kd.int .i64) W2 An N.length N))
   case atStart => exact ⟨0, B, m, _, vB, rfl, HL, ⟨Nat.le_refl _⟩, HI1, KP, HS, HN1⟩
   case round =>
   clear HL HI1 KP HS HN1
   obtain ⟨x, B1, m1, fd1, vB1, rfl, HL, HK, HI2, KP2, HS2, HN2⟩ := hrel
   cases gk with
   | zero => exact absurd HL.out (by simp [spec_l03Even_from.l0])
   | succ g =>
    have H := HL.out
    rw [spec_l03Even_from.l0] at H
    clear HL
    have hp1 : wr.cell? ⟨gw, 1, none⟩ = some (.int .i64 plies) := (blk_cell HI2.out.h 1).trans rfl
    by_cases hx : x < plies
    rotate_left
    · rw [if_neg hx] at H
      have e := Option.some.inj H
      simp only [Prod.mk.injEq] at e
      obtain ⟨rfl, rfl, rfl⟩ := e
      clear H
      go_wp2
      refine bodyPost_end (results_none rfl _ _ _) rfl ⟨rfl, KP2.out, vB1, HI2.out⟩
    rw [if_pos hx] at H
    by_cases hg : 0 ≤ x ∧ x < 6 ∧ N.length < l.length ∧ N.length ≤ 1048576
    rotate_left
    · rw [if_neg hg] at H; cases H
    rw [if_pos hg] at H
    obtain ⟨g1, g2, g3, g4⟩ := hg
    obtain ⟨mo2, hmo, H⟩ := Option.bind_eq_some_iff.mp H
    obtain ⟨⟨B2, m2, fd2⟩, hput, H⟩ := Option.bind_eq_some_iff.mp H
    simp only at H
    have HP := Aside0.mk hput
    have HMO := Aside0.mk hmo
    have HR := Aside0.mk H
    clear H hput hmo
    have hs0 : wr.cell? ⟨gs, 0, none⟩ = some (.int .i64 s0) := (blk_cell HS2.out 0).trans rfl
    have hs1 : wr.cell? ⟨gs, 1, none⟩ = some (.int .i64 s1) := (blk_cell HS2.out 1).trans rfl
    have hs2 : wr.cell? ⟨gs, 2, none⟩ = some (.int .i64 s2) := (blk_cell HS2.out 2).trans rfl
    have hs3 : wr.cell? ⟨gs, 3, none⟩ = some (.int .i64 s3) := (blk_cell HS2.out 3).trans rfl
    have hs4 : wr.cell? ⟨gs, 4, none⟩ = some (.int .i64 s4) := (blk_cell HS2.out 4).trans rfl
    have hs5 : wr.cell? ⟨gs, 5, none⟩ = some (.int .i64 s5) := (blk_cell HS2.out 5).trans rfl
    go_upto_region 10 with (first | ((with_reducible refine gate_dst (N := 9) rfl ?_); refine box_event ?hg (N := 9) ?hd (cs := #[.int .i64 0, .int .i64 0, .int .i64 0, .int .i64 0, .int .i64 0, .int .i64 0]) (t := 80) ?hr ?_; (case hd => rfl); (case hg => rfl); (case hr => first | (go_simp; done) | (go_simp; rfl)); intro gn hgn w3 hn3 hbb; have HB3 := Aside0.mk hbb; have HX3 := Aside0.mk hn3; have GN := Aside0.mk (show gw < gn ∧ gs < gn ∧ wr.heap.size ≤ gn from by rw [hgn]; exact ⟨blk_lt HI2.out.h, blk_lt HS2.out, Nat.le_refl _⟩); clear hn3 hbb hgn; have hn0 : w3.cell? ⟨gn, 0, none⟩ = some (.int .i64 0) := (blk_cell HX3.out 0).trans rfl; have hf0 := blk_frozen HX3.out 0; have hn1 : w3.cell? ⟨gn, 1, none⟩ = some (.int .i64 0) := (blk_cell HX3.out 1).trans rfl; have hf1 := blk_frozen HX3.out 1; have hn2 : w3.cell? ⟨gn, 2, none⟩ = some (.int .i64 0) := (blk_cell HX3.out 2).trans rfl; have hf2 := blk_frozen HX3.out 2; have hn3 : w3.cell? ⟨gn, 3, none⟩ = some (.int .i64 0) := (blk_cell HX3.out 3).trans rfl; have hf3 := blk_frozen HX3.out 3; have hn4 : w3.cell? ⟨gn, 4, none⟩ = some (.int .i64 0) := (blk_cell HX3.out 4).trans rfl; have hf4 := blk_frozen HX3.out 4; have hn5 : w3.cell? ⟨gn, 5, none⟩ = some (.int .i64 0) := (blk_cell HX3.out 5).trans rfl; have hf5 := blk_frozen HX3.out 5))
    have SX := spec_l03Even_from.six HX3.out s0 s1 s2 s3 s4 s5
    have HI3 := Aside0.mk (HI2.out.next HB3.out)
    have HN3 := Aside0.mk (Kd.C_below HN2.out HB3.out)
    have HS3 := Aside0.mk (blk_below HS2.out HB3.out)
    have KP3 := Aside0.mk (KP2.out.trans (KeepBut.of_below HB3.out gw none) (.inl rfl))
    clear hn0 hn1 hn2 hn3 hn4 hn5 hf0 hf1 hf2 hf3 hf4 hf5 hs0 hs1 hs2 hs3 hs4 hs5 hp1
    generalize ((((((w3.setCell ⟨gn, 0, none⟩ (.int .i64 s0)).setCell ⟨gn, 1, none⟩ (.int .i64 s1)).setCell ⟨gn, 2, none⟩ (.int .i64 s2)).setCell ⟨gn, 3, none⟩ (.int .i64 s3)).setCell ⟨gn, 4, none⟩ (.int .i64 s4)).setCell ⟨gn, 5, none⟩ (.int .i64 s5)) = w4 at SX ⊢
    obtain ⟨hx4, hk4, hb4⟩ := SX
    have HX4 := Aside0.mk hx4
    have K4 := Aside0.mk hk4
    have NV := Aside0.mk (show some gn ≠ vB1.ownBlock from fun e => by have := Kd.R_lt HI2.out.rb gn e.symm; have := GN.out; omega)
    have HI4 := Aside0.mk (HI3.out.keep hk4 (hb4 w HI3.out.b (by have := GN.out; have := HI2.out.b.size; omega)) (by have := GN.out; omega) NV.out)
    have HS4 := Aside0.mk ((hk4.2 gs (blk_lt HS3.out) (by have := GN.out; omega) (by simp)).trans HS3.out)
    clear hx4 hk4 hb4
    have hcx := spec_l03Even_from.cell HX4.out x g1 (by simp; omega)
    have hq0 : w4.cell? ⟨gw, 0, none⟩ = some (.slice A0 l.length c0) := (blk_cell HI4.out.h 0).trans rfl
    obtain ⟨ady, ey, hy0, hy1, hy2⟩ := at_T33 (Kd.C_below HCC.out HI4.out.b) (N.length : Int) (by omega) (by omega)
    cases ey
    rw [Int.toNat_natCast] at hy0 hy1 hy2
    have gx6 : (x : Int) < 6 := g2
    have gnl : (N.length : Int) < (l.length : Int) := by omega
    have gn0 : (0 : Int) ≤ (N.length : Int) := by omega
    go_still_tail 15, (by kernel_rfl)
    change wpList _ _ _ _ _ (w4.drewN 1)
    have HX5 := Aside0.mk (blk_drewN HX4.out 1)
    have HI5 := Aside0.mk (HI4.out.next (pw_below_drewN (Below.refl _ _) 1))
    have HS5 := Aside0.mk (blk_drewN HS4.out 1)
    have K5 : Aside0 (KeepBut w3 (w4.drewN 1) gn none) := ⟨K4.out⟩
    clear hcx hq0 hy0 hy1 hy2 HX4 HI4 HS4 K4
    generalize w4.drewN 1 = w5 at *
    have hcx5 := spec_l03Even_from.cell HX5.out x g1 (by simp; omega)
    have hfx5 := blk_frozen HX5.out x.toNat
    go_upto_region 11 with (fail)
    have HX6 : Aside0 ((w5.setCell ⟨gn, x.toNat, none⟩ (.int .i64 (wrap64 (rd [s0, s1, s2, s3, s4, s5] x + wrap64 (rd_T33 l (N.length : Int)).f0)))).heap[gn]? = some (.cells ((([s0, s1, s2, s3, s4, s5] : List Int).set x.toNat (wrap64 (rd [s0, s1, s2, s3, s4, s5] x + wrap64 (rd_T33 l (N.length : Int)).f0))).map (Value.int .i64)).toArray 80 (0, 0))) := ⟨blk_put (cs := (([s0, s1, s2, s3, s4, s5] : List Int).map (Value.int .i64)).toArray) HX5.out x.toNat _ (by rw [List.map_set]; simp)⟩
    have K6 := Aside0.mk (K5.out.set_ x.toNat (.int .i64 (wrap64 (rd [s0, s1, s2, s3, s4, s5] x + wrap64 (rd_T33 l (N.length : Int)).f0))))
    have HI6 := Aside0.mk (HI5.out.keep ((KeepBut.refl w5 gn none).set_ x.toNat (.int .i64 (wrap64 (rd [s0, s1, s2, s3, s4, s5] x + wrap64 (rd_T33 l (N.length : Int)).f0)))) (below_set HI5.out.b (by have := GN.out; have := HI2.out.b.size; omega)) (by have := GN.out; omega) NV.out)
    have HS6 := Aside0.mk (blk_far HS5.out (p := ⟨gn, x.toNat, none⟩) (by have := GN.out; show gs ≠ gn; omega) (.int .i64 (wrap64 (rd [s0, s1, s2, s3, s4, s5] x + wrap64 (rd_T33 l (N.length : Int)).f0))))
    clear hcx5 hfx5 HX5 HI5 HS5 K5
    obtain ⟨t0, t1, t2, t3, t4, t5, hT⟩ : ∃ a b c d e f, ([s0, s1, s2, s3, s4, s5] : List Int).set x.toNat (wrap64 (rd [s0, s1, s2, s3, s4, s5] x + wrap64 (rd_T33 l (N.length : Int)).f0)) = [a, b, c, d, e, f] := by
     match ([s0, s1, s2, s3, s4, s5] : List Int).set x.toNat (wrap64 (rd [s0, s1, s2, s3, s4, s5] x + wrap64 (rd_T33 l (N.length : Int)).f0)), (List.length_set : (([s0, s1, s2, s3, s4, s5] : List Int).set x.toNat (wrap64 (rd [s0, s1, s2, s3, s4, s5] x + wrap64 (rd_T33 l (N.length : Int)).f0))).length = _) with
     | [a, b, c, d, e, f], _ => exact ⟨a, b, c, d, e, f, rfl⟩
    have hTx : rd ([s0, s1, s2, s3, s4, s5].set x.toNat (wrap64 (rd [s0, s1, s2, s3, s4, s5] x + wrap64 (rd_T33 l (N.length : Int)).f0))) x = (wrap64 (rd [s0, s1, s2, s3, s4, s5] x + wrap64 (rd_T33 l (N.length : Int)).f0)) := by
     have hl : x.toNat < ([s0, s1, s2, s3, s4, s5] : List Int).length := by simp; omega
     unfold rd
     rw [List.getD_eq_getElem?_getD, List.getElem?_set_self hl]; rfl
    rw [hT] at hTx
    have HP2 := HP.out
    rw [hT] at HP2
    have HX62 := HX6.out
    rw [hT] at HX62
    generalize w5.setCell ⟨gn, x.toNat, none⟩ (.int .i64 (wrap64 (rd [s0, s1, s2, s3, s4, s5] x + wrap64 (rd_T33 l (N.length : Int)).f0))) = w6 at *
    generalize (wrap64 (rd [s0, s1, s2, s3, s4, s5] x + wrap64 (rd_T33 l (N.length : Int)).f0)) = vv at *
    have HP3 := Aside0.mk HP2
    have HX7 := Aside0.mk HX62
    have HTx := Aside0.mk hTx
    clear HP2 HX62 HX6 HP hT hTx
    have HN6 := Aside0.mk (spec_l03Even_from.keepN HN2.out HB3.out K6.out GN.out.2.2)
    have KP6 : Aside0 (KeepBut W w6 gw none) := ⟨⟨Nat.le_trans KP3.out.1 K6.out.1, fun i hi hne hr => (K6.out.2 i (Nat.lt_of_lt_of_le hi KP3.out.1) (by have := GN.out; have := KP2.out.1; omega) hr).trans (KP3.out.2 i hi hne hr)⟩⟩
    clear K6 HB3 HN3 KP3 HS3 HI3 HX3
    go_cut [8] (fun v8 wc => ∃ (vB2 : Value), v8 = .int .i64 x ∧ Aside0 (spec_l03Even_from.Inv w wc gw (some ady) c0 l plies B2 m2 fd2 vB2) ∧ Aside0 (KeepBut W wc gw none) ∧ Aside0 (wc.heap[gs]? = some (.cells #[.int .i64 s0, .int .i64 s1, .int .i64 s2, .int .i64 s3, .int .i64 s4, .int .i64 s5] 80 (0, 0))) ∧ Aside0 (Kd.C (Kd.int .i64) wc An N.length N))
    case first =>
     as_aux_lemma =>
     have ht0 : w6.cell? ⟨gn, 0, none⟩ = some (.int .i64 t0) := (blk_cell HX7.out 0).trans rfl
     have ht1 : w6.cell? ⟨gn, 1, none⟩ = some (.int .i64 t1) := (blk_cell HX7.out 1).trans rfl
     have ht2 : w6.cell? ⟨gn, 2, none⟩ = some (.int .i64 t2) := (blk_cell HX7.out 2).trans rfl
     have ht3 : w6.cell? ⟨gn, 3, none⟩ = some (.int .i64 t3) := (blk_cell HX7.out 3).trans rfl
     have ht4 : w6.cell? ⟨gn, 4, none⟩ = some (.int .i64 t4) := (blk_cell HX7.out 4).trans rfl
     have ht5 : w6.cell? ⟨gn, 5, none⟩ = some (.int .i64 t5) := (blk_cell HX7.out 5).trans rfl
     have htx : w6.cell? ⟨gn, x.toNat, none⟩ = some (.int .i64 vv) := by
      have z := spec_l03Even_from.cell HX7.out x g1 (by simp; omega)
      rw [HTx.out] at z
      exact z
     have hlt6 : gn < w6.heap.size := blk_lt HX7.out
     go_region_held3 (fun w' => w'.cell? ⟨gn, 0, none⟩ = some (.int .i64 t0) ∧ w'.cell? ⟨gn, 1, none⟩ = some (.int .i64 t1) ∧ w'.cell? ⟨gn, 2, none⟩ = some (.int .i64 t2) ∧ w'.cell? ⟨gn, 3, none⟩ = some (.int .i64 t3) ∧ w'.cell? ⟨gn, 4, none⟩ = some (.int .i64 t4) ∧ w'.cell? ⟨gn, 5, none⟩ = some (.int .i64 t5) ∧ w'.cell? ⟨gn, x.toNat, none⟩ = some (.int .i64 vv)) ((repeat' (with_reducible refine And.intro ?_ ?_)) <;> ((repeat (first | (with_reducible refine spec_l03Even_from.keepD ?_) | (with_reducible refine spec_l03Even_from.keepA ?_) | (with_reducible refine spec_l03Even_from.keepNN ?_))); (try (first | (with_reducible refine (HT9.out _).trans ?_) | (with_reducible refine (HB73.out.cell hlt6).trans ?_) | (with_reducible refine (HB70.out.cell hlt6).trans ?_))); (first | (with_reducible exact ht0) | (with_reducible exact ht1) | (with_reducible exact ht2) | (with_reducible exact ht3) | (with_reducible exact ht4) | (with_reducible exact ht5) | (with_reducible exact htx)))) (first | (refine spec_l03Even_from.app (w0 := w6) ?hw (.tmp 68) (.tmp 69) rfl (.slice (some ⟨w6.heap.size, 0, none⟩) 0 0) [] N _ _ _ rfl rfl ?aO ?aR ?aB ?aL ?_; (case hw => rfl); (case aO => (refine spec_l03Even_from.lit [] ?_ ?_ (Nat.zero_le _)); ((repeat (first | exact spec_l03Even_from.top rfl | exact spec_l03Even_from.top (by simp) | (with_reducible refine blk_drew ?_) | (with_reducible refine blk_alloc ?_ _)))); (omega)); (case aR => (refine Kd.C_below HN6.out ?_); (repeat (first | exact Below.refl _ _ | (with_reducible refine below_drew1 ?_) | (with_reducible refine below_alloc ?_ _) | (with_reducible refine pw_below_drewN ?_ _)))); (case aB => (repeat (first | exact Below.refl _ _ | (with_reducible refine below_drew1 ?_) | (with_reducible refine below_alloc ?_ _) | (with_reducible refine pw_below_drewN ?_ _)))); (case aL => simp; omega); intro v70 w70 ho hb hg; rw [List.nil_append] at ho; have HO70 := Aside0.mk ho; have HB70 := Aside0.mk hb; have HG70 := Aside0.mk hg; clear ho hb hg) | (refine spec_l03Even_from.app (w0 := w6) ?hw (.tmp 68) (.tmp 69) rfl (.slice (some ⟨w6.heap.size + 1, 0, none⟩) 0 0) [] N _ _ _ rfl rfl ?aO ?aR ?aB ?aL ?_; (case hw => rfl); (case aO => (refine spec_l03Even_from.lit [] ?_ ?_ (Nat.zero_le _)); ((repeat (first | exact spec_l03Even_from.top rfl | exact spec_l03Even_from.top (by simp) | (with_reducible refine blk_drew ?_) | (with_reducible refine blk_alloc ?_ _)))); (omega)); (case aR => (refine Kd.C_below HN6.out ?_); (repeat (first | exact Below.refl _ _ | (with_reducible refine below_drew1 ?_) | (with_reducible refine below_alloc ?_ _) | (with_reducible refine pw_below_drewN ?_ _)))); (case aB => (repeat (first | exact Below.refl _ _ | (with_reducible refine below_drew1 ?_) | (with_reducible refine below_alloc ?_ _) | (with_reducible refine pw_below_drewN ?_ _)))); (case aL => simp; omega); intro v70 w70 ho hb hg; rw [List.nil_append] at ho; have HO70 := Aside0.mk ho; have HB70 := Aside0.mk hb; have HG70 := Aside0.mk hg; clear ho hb hg) | (refine spec_l03Even_from.app (w0 := w6) ?hw (.tmp 70) (.tmp 72) rfl v70 N [x] _ _ _ rfl rfl ?bO ?bR ?bB ?bL ?_; (case hw => rfl); (case bO => (refine Kd.R_below HO70.out ?_); (repeat (first | exact Below.refl _ _ | (with_reducible refine below_drew1 ?_) | (with_reducible refine below_alloc ?_ _) | (with_reducible refine pw_below_drewN ?_ _)))); (case bR => (refine (Kd.R_reads' (spec_l03Even_from.lit (base := 0) [x] ?_ (Nat.zero_le _) (by simp))).2.2); ((repeat (first | exact spec_l03Even_from.top rfl | exact spec_l03Even_from.top (by simp) | (with_reducible refine blk_drew ?_) | (with_reducible refine blk_alloc ?_ _))); done)); (case bB => (repeat (first | exact HB70.out | exact Below.refl _ _ | (with_reducible refine below_drew1 ?_) | (with_reducible refine below_alloc ?_ _) | (with_reducible refine pw_below_drewN ?_ _)))); (case bL => simp; omega); intro v73 w73 ho hb hg; have HO73 := Aside0.mk ho; have HB73 := Aside0.mk hb; clear ho hb hg) | (refine spec_l03Even_from.app (w0 := w6) ?hw (.tmp 70) (.tmp 72) rfl v70 N [x] _ _ _ rfl rfl ?bO ?bR ?bB ?bL ?_; (case hw => rfl); (case bO => (refine Kd.R_below HO70.out ?_); (repeat (first | exact Below.refl _ _ | (with_reducible refine below_drew1 ?_) | (with_reducible refine below_alloc ?_ _) | (with_reducible refine pw_below_drewN ?_ _)))); (case bR => (refine (Kd.R_reads' (spec_l03Even_from.lit (base := 0) [x] ?_ (Nat.zero_le _) (by simp))).2.2); ((repeat (with_reducible refine blk_drew ?_)); (refine (HG70.out.block _ ?_ ?_).trans ?_); rotate_left 2; ((repeat (first | exact spec_l03Even_from.top rfl | exact spec_l03Even_from.top (by simp) | (with_reducible refine blk_drew ?_) | (with_reducible refine blk_alloc ?_ _)))); (focus (first | (simp; done) | (simp; omega) | trace_state)); (focus (first | (simp [Value.ownBlock]; done) | (simp [Value.ownBlock]; omega) | trace_state)))); (case bB => (repeat (first | exact HB70.out | exact Below.refl _ _ | (with_reducible refine below_drew1 ?_) | (with_reducible refine below_alloc ?_ _) | (with_reducible refine pw_below_drewN ?_ _)))); (case bL => simp; omega); intro v73 w73 ho hb hg; have HO73 := Aside0.mk ho; have HB73 := Aside0.mk hb; clear ho hb hg) | (go_at_call 64; refine (spec_l00Max.calls mo vv mo2 _ HMO.out).mono ?_; rintro e w' ⟨rfl, ⟨nd, rfl⟩⟩) | (go_at_call 51; obtain ⟨A7, c7, e7, hc7, hC7⟩ := Kd.R_reads HO73.out; subst e7; refine (IHa.out g (by have := HK.out; omega) A7 c7 (N ++ [x]) [t0, t1, t2, t3, t4, t5] mo2 B1 m1 fd1 vB1 _ B2 m2 fd2 (HI6.out.next (by (repeat (first | exact HB73.out | exact Below.refl _ _ | (with_reducible refine below_drew1 ?_) | (with_reducible refine below_alloc ?_ _) | (with_reducible refine pw_below_drewN ?_ _))))) (Kd.C_below hC7 (by (repeat (first | exact Below.refl _ _ | (with_reducible refine below_drew1 ?_) | (with_reducible refine below_alloc ?_ _) | (with_reducible refine pw_below_drewN ?_ _))))) hc7 (fun ad e => by subst e; have q := Kd.R_base HO73.out ad.block rfl; have := blk_lt HX7.out; have := GN.out; omega) rfl HP3.out).mono ?_; rintro e w' ⟨rfl, hk, vB2, hI⟩; have HI9 := Aside0.mk hI; have KP9 := Aside0.mk ((KP6.out.trans (KeepBut.of_below (by (repeat (first | exact HB73.out | exact Below.refl _ _ | (with_reducible refine below_drew1 ?_) | (with_reducible refine below_alloc ?_ _) | (with_reducible refine pw_below_drewN ?_ _)))) gw none) (.inl rfl)).trans hk (.inl rfl)); have HS9 := Aside0.mk ((hk.2 gs (blk_lt (blk_below HS6.out (by (repeat (first | exact HB73.out | exact Below.refl _ _ | (with_reducible refine below_drew1 ?_) | (with_reducible refine below_alloc ?_ _) | (with_reducible refine pw_below_drewN ?_ _)))))) (by have := GS.out; omega) (by simp)).trans (blk_below HS6.out (by (repeat (first | exact HB73.out | exact Below.refl _ _ | (with_reducible refine below_drew1 ?_) | (with_reducible refine below_alloc ?_ _) | (with_reducible refine pw_below_drewN ?_ _)))))); have HN9 := Aside0.mk (spec_l03Even_from.keepC hk (Kd.C_below HN6.out (by (repeat (first | exact HB73.out | exact Below.refl _ _ | (with_reducible refine below_drew1 ?_) | (with_reducible refine below_alloc ?_ _) | (with_reducible refine pw_below_drewN ?_ _))))) HNE.out); have HT9 : Aside0 (∀ j : Nat, w'.cell? ⟨gn, j, none⟩ = w6.cell? ⟨gn, j, none⟩) := ⟨fun j => (World.cell?_of_block (hk.2 gn (blk_lt (blk_below HX7.out (by (repeat (first | exact HB73.out | exact Below.refl _ _ | (with_reducible refine below_drew1 ?_) | (with_reducible refine below_alloc ?_ _) | (with_reducible refine pw_below_drewN ?_ _)))))) (by have := GN.out; omega) (by simp))).trans (Below.cell (show Below w6.heap.size w6 _ from by (repeat (first | exact HB73.out | exact Below.refl _ _ | (with_reducible refine below_drew1 ?_) | (with_reducible refine below_alloc ?_ _) | (with_reducible refine pw_below_drewN ?_ _)))) hlt6)⟩; clear hk hI))
     all_goals
      (try go_wp2)
      go_meet
      case rel => exact ⟨_, rfl, HI9, KP9, HS9, HN9⟩
    case rest =>
    as_aux_lemma =>
    clear HX7 HI6 HS6 KP6 HN6
    obtain ⟨vB2, rfl, HI10, KP10, HS10, HN10⟩ := hcut
    have hcx : wc.cell? ⟨gs, x.toNat, none⟩ = some (.int .i64 (rd [s0, s1, s2, s3, s4, s5] x)) := spec_l03Even_from.cell (S := [s0, s1, s2, s3, s4, s5]) HS10.out x g1 (by simp; omega)
    have H := HR.out
    clear HR
    by_cases hz : rd [s0, s1, s2, s3, s4, s5] x = 0
    · rw [if_pos hz] at H
      have e := Option.some.inj H
      simp only [Prod.mk.injEq] at e
      obtain ⟨rfl, rfl, rfl⟩ := e
      have hz1 : (rd [s0, s1, s2, s3, s4, s5] x == 0) = true := beq_iff_eq.mpr hz
      clear H
      go_wp2
      refine bodyPost_ret (results_none rfl _ _ _) rfl ⟨rfl, KP10.out, vB2, HI10.out⟩
    rw [if_neg hz] at H
    have hz1 : (rd [s0, s1, s2, s3, s4, s5] x == 0) = false := beq_eq_false_iff_ne.mpr hz
    have hwx : wrap64 (x + 1) = x + 1 := by unfold wrap64; omega
    rw [hwx] at H
    have HL := Aside0.mk H
    clear H hwx
    go_wp2
    go_roundg g
    case measure => omega
    case rel => exact ⟨_, B2, m2, fd2, vB2, rfl, HL, ⟨by have := HK.out; omega⟩, HI10, KP10, HS10, HN10⟩

/-! ### spec_EvenPlies: function 21 -/
def spec_EvenPlies.f (k : Nat) (l0 : List S33) (a1 : Int) : Option (List Int × Int × Int) :=
  (spec_l00In.f a1 1 6).bind fun t => (spec_l03Asked.f k l0 t).bind fun c =>
    if c = 0 then (if a1 > (l0.length : Int) then some ([], 0, 6)
      else (spec_l03Even_from.f l0 a1 k [] [0, 0, 0, 0, 0, 0] 0 [] 0 false).bind fun r => some (r.1, r.2.1, 0))
    else some ([], 0, c)
theorem spec_EvenPlies.mono : ∀ a0 a1 k, LeO (spec_EvenPlies.f k a0 a1) (spec_EvenPlies.f (k + 1) a0 a1) := by
  intro a0 a1 k
  unfold spec_EvenPlies.f
  repeat' first
    | exact spec_l03Asked.mono _ _ _
    | exact (spec_l03Even_from.mono_l _ _ _).1 _ _ _ _ _ _
    | (with_reducible exact LeO.refl _)
    | (with_reducible refine LeO.ite ?_ ?_)
    | (with_reducible refine LeO.bind ?_ (fun _ => ?_))
set_option maxHeartbeats 8000000 in
set_option maxRecDepth 100000 in
theorem spec_EvenPlies.calls (k : Nat) (A0 : Option Addr) (c0 : Nat) (l0 : List S33) (a1 : Int) (r1 : List Int) (r2 r3 : Int) (w : World) (hr0 : Kd.C k33 w A0 l0.length l0) (hc0 : l0.length ≤ c0) (h : spec_EvenPlies.f k l0 a1 = some (r1, r2, r3)) :
    Calls Try.prog 21 #[.slice A0 l0.length c0, .int .i64 a1] w fun e w' => ∃ v0_ : Value, e = .returned (.tuple #[v0_, .int .i64 r2, .int .i64 r3]) ∧ Kd.R (Kd.int .i64) 2 w' w.heap.size (fun _ => True) v0_ r1 ∧ Below w.heap.size w w' := by
 unfold spec_EvenPlies.f at h
 obtain ⟨t, ht, h⟩ := Option.bind_eq_some_iff.mp h
 obtain ⟨c, hc, h⟩ := Option.bind_eq_some_iff.mp h
 have HT := Aside0.mk ht
 have HC := Aside0.mk hc
 have HR := Aside0.mk hr0
 have HC0 := Aside0.mk hc0
 have hu1 := Try.underlying78
 have hu2 := Try.underlying80
 clear ht hc hr0 hc0
 by_cases hz : c = 0
 rotate_left
 · rw [if_neg hz] at h
   have e := Option.some.inj h
   simp only [Prod.mk.injEq] at e
   obtain ⟨rfl, rfl, rfl⟩ := e
   clear h
   have q1 : (c == 0) = false := beq_eq_false_iff_ne.mpr hz
   have q2 : (c != 0) = true := bne_iff_ne.mpr hz
   go_enter Try.func21, Try.ntmps21
   go_wp2_with (first | (go_at_call 50; refine (spec_l00In.calls a1 1 6 t _ HT.out).mono ?_; rintro e w' ⟨rfl, ⟨nd, rfl⟩⟩) | (go_at_call 41; refine (spec_l03Asked.calls k A0 c0 l0 t c _ (Kd.C_below HR.out (pw_below_drewN (Below.refl _ _) _)) HC0.out HC.out).mono ?_; rintro e w4 ⟨rfl, hb4⟩; have B4 := Aside0.mk (below_then (pw_below_drewN (Below.refl w.heap.size w) _) (pw_below_drewN (Below.refl w.heap.size w) _).size hb4); clear hb4))
   go_ret3
   exact ⟨_, rfl, spec_l03Even_from.lit [] (spec_l03Even_from.top rfl) B4.out.size (Nat.zero_le _), below_alloc B4.out _⟩
 rw [if_pos hz] at h
 subst hz
 by_cases hgt : a1 > (l0.length : Int)
 · rw [if_pos hgt] at h
   have e := Option.some.inj h
   simp only [Prod.mk.injEq] at e
   obtain ⟨rfl, rfl, rfl⟩ := e
   clear h
   have q1 : decide ((l0.length : Int) < a1) = true := decide_eq_true hgt
   go_enter Try.func21, Try.ntmps21
   go_wp2_with (first | (go_at_call 50; refine (spec_l00In.calls a1 1 6 t _ HT.out).mono ?_; rintro e w' ⟨rfl, ⟨nd, rfl⟩⟩) | (go_at_call 41; refine (spec_l03Asked.calls k A0 c0 l0 t 0 _ (Kd.C_below HR.out (pw_below_drewN (Below.refl _ _) _)) HC0.out HC.out).mono ?_; rintro e w4 ⟨rfl, hb4⟩; have B4 := Aside0.mk (below_then (pw_below_drewN (Below.refl w.heap.size w) _) (pw_below_drewN (Below.refl w.heap.size w) _).size hb4); clear hb4))
   go_ret3
   exact ⟨_, rfl, spec_l03Even_from.lit [] (spec_l03Even_from.top rfl) B4.out.size (Nat.zero_le _), below_alloc B4.out _⟩
 rw [if_neg hgt] at h
 obtain ⟨⟨B, m, fd⟩, hf, h⟩ := Option.bind_eq_some_iff.mp h
 have e := Option.some.inj h
 simp only [Prod.mk.injEq] at e
 obtain ⟨rfl, rfl, rfl⟩ := e
 have HF := Aside0.mk hf
 clear h hf
 have q1 : decide ((l0.length : Int) < a1) = false := decide_eq_false hgt
 go_enter Try.func21, Try.ntmps21
 go_wp2_with (first | (go_at_call 50; refine (spec_l00In.calls a1 1 6 t _ HT.out).mono ?_; rintro e w' ⟨rfl, ⟨nd, rfl⟩⟩) | (go_at_call 41; refine (spec_l03Asked.calls k A0 c0 l0 t 0 _ (Kd.C_below HR.out (pw_below_drewN (Below.refl _ _) _)) HC0.out HC.out).mono ?_; rintro e w4 ⟨rfl, hb4⟩; have B4 := Aside0.mk (below_then (pw_below_drewN (Below.refl w.heap.size w) _) (pw_below_drewN (Below.refl w.heap.size w) _).size hb4); clear hb4) | ((with_reducible refine gate_dst (N := 28) rfl ?_); refine box_event ?hg (N := 28) ?hd (cs := #[.slice A0 l0.length c0, .int .i64 a1, .slice none 0 0, .int .i64 0, .bool false]) (t := 78) ?hr ?_; (case hd => rfl); (case hg => rfl); (case hr => first | (go_simp; done) | (go_simp; rfl)); intro gw hgw w5 hw5 hbb; have HW5 := Aside0.mk hw5; have B5 := Aside0.mk (below_then B4.out B4.out.size hbb); have GW := Aside0.mk (show w.heap.size ≤ gw from by rw [hgw]; exact B4.out.size); clear hw5 hbb hgw B4) | ((with_reducible refine gate_dst (N := 30) rfl ?_); refine Kd.R_lit (Kd.int .i64) (w0 := w5) w5.heap.size 2 ?hg (N := 30) ?hd (xs := ([] : List Int)) (inner := []) (ok := fun _ => True) (okp := fun _ => True) ?hr ?hp (fun _ hk => hk) trivial (Below.refl _ _) (Nat.le_refl _) (by simp) ?_; (case hd => rfl); (case hg => rfl); (case hr => first | (go_simp; done) | (go_simp; rfl)); (case hp => exact (Reps.none _ _)); intro v30 w6 ho hb hg_ hnew_; have HO6 := Aside0.mk ho; have HB6 := Aside0.mk hb; clear ho hb hg_ hnew_) | (go_at_call 51; obtain ⟨A7, c7, e7, hc7, hC7⟩ := Kd.R_reads HO6.out; subst e7; refine (spec_l03Even_from.calls w gw A0 c0 l0 a1 HR.out k A7 c7 [] [0, 0, 0, 0, 0, 0] 0 [] 0 false (.slice none 0 0) w6 B m fd ⟨below_then B5.out B5.out.size HB6.out, GW.out, blk_below HW5.out HB6.out, Kd.R_nil _ _ _ _ _⟩ hC7 hc7 (fun ad e => by subst e; have q := Kd.R_base HO6.out ad.block rfl; have := blk_lt HW5.out; omega) rfl HF.out).mono ?_; rintro e w8 ⟨rfl, hk, vB2, hI⟩; have HI8 := Aside0.mk hI; clear hk hI; have hw2 : w8.cell? ⟨gw, 2, none⟩ = some vB2 := (blk_cell HI8.out.h 2).trans rfl; have hw3 : w8.cell? ⟨gw, 3, none⟩ = some (.int .i64 m) := (blk_cell HI8.out.h 3).trans rfl; obtain ⟨A9, c9, e9⟩ := Kd.R_slice HI8.out.rb; subst e9))
 refine wp_region_still_lit (by kernel_rfl) (by kernel_rfl) ?_
 repeat still_step
 refine wpStill_nil ?_
 change Exit.then _ _ _ _ (w8.drewN 1)
 go_wp2
 go_ret3
 exact ⟨_, rfl, Kd.R_drewN HI8.out.rb 1, pw_below_drewN HI8.out.b 1⟩

/-! ### spec_l00Same: function 52 -/
def spec_l00Same.l0 : Nat → List Int → List Int → Int → Option (Bool)
  | 0, _, _, _ => none
  | k + 1, x0, x1, x5 => if x5 < (x0.length : Int) then (if 0 ≤ x5 then (if x5 < (x1.length : Int) then (if (rd x0 x5) = (rd x1 x5) then (spec_l00Same.l0 k x0 x1 (wrap64 (x5 + 1))) else (some false)) else (none)) else (none)) else (some true)
def spec_l00Same.f (k : Nat) (l0 : List Int) (l1 : List Int) : Option (Bool) := if (l0.length : Int) = (l1.length : Int) then (spec_l00Same.l0 k l0 l1 0) else (some false)
theorem spec_l00Same.mono_l : ∀ k, (∀ y0 y1 y2, LeO (spec_l00Same.l0 k y0 y1 y2) (spec_l00Same.l0 (k + 1) y0 y1 y2))
  | 0 => fun _ _ _ r h => by simp [spec_l00Same.l0] at h
  | k + 1 => by
    have ih0 := spec_l00Same.mono_l k
    · intro y0 y1 y2
      unfold spec_l00Same.l0
      repeat' first
      | (with_reducible exact ih0 _ _ _)
      | (with_reducible exact LeO.refl _)
      | (with_reducible exact LeO.none _)
      | (with_reducible refine LeO.ite ?_ ?_)
      | (with_reducible refine LeO.bind ?_ (fun _ => ?_))
      | (with_reducible refine allG_mono _ (fun _ => ?_))
      | (with_reducible refine idxG_mono _ (fun _ => ?_))
      | exact ih0 _ _ _
      | exact LeO.none _
      | refine LeO.ite ?_ ?_
      | refine LeO.bind ?_ (fun _ => ?_)
theorem spec_l00Same.mono : ∀ a0 a1 k, LeO (spec_l00Same.f k a0 a1) (spec_l00Same.f (k + 1) a0 a1) := by
  intro a0 a1 k
  have ih0 := spec_l00Same.mono_l k
  unfold spec_l00Same.f
  repeat' first
      | (with_reducible exact ih0 _ _ _)
      | (with_reducible exact LeO.refl _)
      | (with_reducible exact LeO.none _)
      | (with_reducible refine LeO.ite ?_ ?_)
      | (with_reducible refine LeO.bind ?_ (fun _ => ?_))
      | (with_reducible refine allG_mono _ (fun _ => ?_))
      | (with_reducible refine idxG_mono _ (fun _ => ?_))
      | exact ih0 _ _ _
      | exact LeO.none _
      | refine LeO.ite ?_ ?_
      | refine LeO.bind ?_ (fun _ => ?_)
set_option maxHeartbeats 8000000 in
set_option maxRecDepth 100000 in
theorem spec_l00Same.calls (k : Nat) (A0 : Option Addr) (c0 : Nat) (l0 : List Int) (A1 : Option Addr) (c1 : Nat) (l1 : List Int) (r : Bool) (w : World) (hr0 : Kd.C (Kd.int .i64) w A0 l0.length l0) (hc0 : l0.length ≤ c0) (hr1 : Kd.C (Kd.int .i64) w A1 l1.length l1) (hc1 : l1.length ≤ c1) (h : spec_l00Same.f k l0 l1 = some r) :
    Calls Try.prog 52 #[.slice A0 l0.length c0, .slice A1 l1.length c1] w fun e w' => e = .returned (.bool r) ∧ Drawn0 w w' := by
 have HR0 := Aside0.mk hr0
 have HC0 := Aside0.mk hc0
 clear hr0 hc0
 have HR1 := Aside0.mk hr1
 have HC1 := Aside0.mk hc1
 clear hr1 hc1
 have H : (if (l0.length : Int) = (l1.length : Int) then (spec_l00Same.l0 k l0 l1 0) else (some false)) = some r := h
 clear h
 by_cases c3 : (l0.length : Int) = (l1.length : Int)
 rotate_left
 · rw [if_neg c3] at H
   have c3b0 : ((l0.length : Int) == (l1.length : Int)) = false := beq_eq_false_iff_ne.mpr c3
   have c3b1 : ((l0.length : Int) != (l1.length : Int)) = true := bne_iff_ne.mpr c3
   have c3b2 : (l0.length == l1.length) = false := by first | simpa using c3 | (simp at c3 ⊢; omega)
   obtain rfl := Option.some.inj H
   go_enter Try.func52, Try.ntmps52
   go_wp2
   repeat (go_quiet (fail); try go_wp2)
   go_ret
   exact ⟨zx, by repeat (first | exact Drawn0.refl _ | apply Drawn0.step)⟩
 rw [if_pos c3] at H
 have c3b0 : ((l0.length : Int) == (l1.length : Int)) = true := beq_iff_eq.mpr c3
 have c3b1 : ((l0.length : Int) != (l1.length : Int)) = false := bne_eq_false_iff_eq.mpr c3
 have c3b2 : (l0.length == l1.length) = true := by first | simpa using c3 | (simp at c3 ⊢; omega)
 clear c3
 have H' := Aside0.mk H
 clear H
 go_enter Try.func52, Try.ntmps52
 go_wp2
 repeat (go_quiet (fail); try go_wp2)
 go_loopg [5] k (fun kq v5 w' => ∃ (x5_1 : Int), v5 = .int .i64 x5_1 ∧ Aside0 (spec_l00Same.l0 kq l0 l1 x5_1 = some r) ∧ Aside0 (kq ≤ k) ∧ Drawn0 w w')
 case atStart => exact ⟨(0), zx, H', ⟨Nat.le_refl _⟩, by repeat (first | exact Drawn0.refl _ | apply Drawn0.step)⟩
 case round =>
 clear H'
 try clear c1
 try clear p2
 try clear c3
 try clear c3b0
 try clear c3b1
 try clear c3b2
 obtain ⟨x5_1, rfl, HA, HK1, ⟨m1, rfl⟩⟩ := hrel
 cases gk with
 | zero => exact absurd HA.out (by simp [spec_l00Same.l0])
 | succ k1 =>
  have H := HA.out
  clear HA
  simp only [spec_l00Same.l0] at H
  by_cases c4 : x5_1 < (l0.length : Int)
  rotate_left
  · rw [if_neg c4] at H
    have c4b0 : decide (x5_1 < (l0.length : Int)) = false := decide_eq_false c4
    clear c4
    obtain rfl := Option.some.inj H
    go_wp2
    repeat (go_quiet (fail); try go_wp2)
    go_ret
    exact ⟨zx, by repeat (first | exact Drawn0.refl _ | apply Drawn0.step)⟩
  rw [if_pos c4] at H
  have c4b0 : decide (x5_1 < (l0.length : Int)) = true := decide_eq_true c4
  clear c4
  by_cases c5 : 0 ≤ x5_1
  rotate_left
  · rw [if_neg c5] at H
    exact absurd H (by simp)
  rw [if_pos c5] at H
  have c5b0 : decide (0 ≤ x5_1) = true := decide_eq_true c5
  clear c5
  by_cases c6 : x5_1 < (l1.length : Int)
  rotate_left
  · rw [if_neg c6] at H
    exact absurd H (by simp)
  rw [if_pos c6] at H
  have c6b0 : decide (x5_1 < (l1.length : Int)) = true := decide_eq_true c6
  clear c6
  by_cases c7 : (rd l0 x5_1) = (rd l1 x5_1)
  rotate_left
  · rw [if_neg c7] at H
    have c7b0 : ((rd l0 x5_1) == (rd l1 x5_1)) = false := beq_eq_false_iff_ne.mpr c7
    have c7b1 : ((rd l0 x5_1) != (rd l1 x5_1)) = true := bne_iff_ne.mpr c7
    obtain rfl := Option.some.inj H
    have p271 : 0 ≤ (x5_1 : Int) := zd
    have q271 : x5_1 < (l0.length : Int) := zd
    obtain ⟨ad271, e271, hx271_0⟩ := Kd.at_int HR0.out x5_1 p271 q271
    cases e271
    replace p271 := eq_true p271
    replace q271 := eq_true q271
    have p272 : 0 ≤ (x5_1 : Int) := zd
    have q272 : x5_1 < (l1.length : Int) := zd
    obtain ⟨ad272, e272, hx272_0⟩ := Kd.at_int HR1.out x5_1 p272 q272
    cases e272
    replace p272 := eq_true p272
    replace q272 := eq_true q272
    go_wp2
    repeat (go_quiet (fail); try go_wp2)
    go_ret
    exact ⟨zx, by repeat (first | exact Drawn0.refl _ | apply Drawn0.step)⟩
  rw [if_pos c7] at H
  have c7b0 : ((rd l0 x5_1) == (rd l1 x5_1)) = true := beq_iff_eq.mpr c7
  have c7b1 : ((rd l0 x5_1) != (rd l1 x5_1)) = false := bne_eq_false_iff_eq.mpr c7
  clear c7
  have H' := Aside0.mk H
  clear H
  have p271 : 0 ≤ (x5_1 : Int) := zd
  have q271 : x5_1 < (l0.length : Int) := zd
  obtain ⟨ad271, e271, hx271_0⟩ := Kd.at_int HR0.out x5_1 p271 q271
  cases e271
  replace p271 := eq_true p271
  replace q271 := eq_true q271
  have p272 : 0 ≤ (x5_1 : Int) := zd
  have q272 : x5_1 < (l1.length : Int) := zd
  obtain ⟨ad272, e272, hx272_0⟩ := Kd.at_int HR1.out x5_1 p272 q272
  cases e272
  replace p272 := eq_true p272
  replace q272 := eq_true q272
  go_wp2
  repeat (go_quiet (fail); try go_wp2)
  go_roundg k1
  case measure => have := HK1.out; omega
  case rel => exact ⟨(wrap64 (x5_1 + 1)), zx, H', ⟨by have := HK1.out; omega⟩, by repeat (first | exact Drawn0.refl _ | apply Drawn0.step)⟩

/-! ### spec_SameNumbers: function 22 -/
def spec_SameNumbers.f (k : Nat) (l0 : List Int) (l1 : List Int) : Option (Bool) := (spec_l00Same.f k l0 l1).bind fun t273 => (some t273)
theorem spec_SameNumbers.mono : ∀ a0 a1 k, LeO (spec_SameNumbers.f k a0 a1) (spec_SameNumbers.f (k + 1) a0 a1) := by
  intro a0 a1 k
  unfold spec_SameNumbers.f
  repeat' first
      | (with_reducible exact spec_l00Same.mono _ _ _)
      | (with_reducible exact LeO.refl _)
      | (with_reducible exact LeO.none _)
      | (with_reducible refine LeO.ite ?_ ?_)
      | (with_reducible refine LeO.bind ?_ (fun _ => ?_))
      | (with_reducible refine allG_mono _ (fun _ => ?_))
      | (with_reducible refine idxG_mono _ (fun _ => ?_))
      | exact spec_l00Same.mono _ _ _
      | exact LeO.none _
      | refine LeO.ite ?_ ?_
      | refine LeO.bind ?_ (fun _ => ?_)
set_option maxHeartbeats 8000000 in
set_option maxRecDepth 100000 in
theorem spec_SameNumbers.calls (k : Nat) (A0 : Option Addr) (c0 : Nat) (l0 : List Int) (A1 : Option Addr) (c1 : Nat) (l1 : List Int) (r : Bool) (w : World) (hr0 : Kd.C (Kd.int .i64) w A0 l0.length l0) (hc0 : l0.length ≤ c0) (hr1 : Kd.C (Kd.int .i64) w A1 l1.length l1) (hc1 : l1.length ≤ c1) (h : spec_SameNumbers.f k l0 l1 = some r) :
    Calls Try.prog 22 #[.slice A0 l0.length c0, .slice A1 l1.length c1] w fun e w' => e = .returned (.bool r) ∧ Drawn0 w w' := by
 have HR0 := Aside0.mk hr0
 have HC0 := Aside0.mk hc0
 clear hr0 hc0
 have HR1 := Aside0.mk hr1
 have HC1 := Aside0.mk hc1
 clear hr1 hc1
 have H : ((spec_l00Same.f k l0 l1).bind fun t273 => (some t273)) = some r := h
 clear h
 replace H := Option.bind_eq_some_iff.mp H
 obtain ⟨t273, A30, H⟩ := H
 replace H : (some t273) = some r := H
 have A3 := Aside0.mk A30
 clear A30
 obtain rfl := Option.some.inj H
 go_enter Try.func22, Try.ntmps22
 go_wp2_with (first | ((with_reducible refine gate_callee (f := 52) rfl ?_); refine goesL_ (some 7) rfl rfl Try.func52 (by kernel_rfl) rfl #[.slice A0 l0.length c0, .slice A1 l1.length c1] rfl zr ?_; (with_reducible refine (spec_l00Same.calls k _ _ l0 _ _ l1 t273 _ ?side1 ?side2 ?side3 ?side4 A3.out).mono ?_); (case side1 => exact zk HR0.out); (case side2 => exact HC0.out); (case side3 => exact zk HR1.out); (case side4 => exact HC1.out); rintro e w' ⟨rfl, ⟨nd, rfl⟩⟩; refine ⟨_, rfl, ?_⟩))
 go_ret
 exact ⟨zx, by repeat (first | exact Drawn0.refl _ | apply Drawn0.step)⟩

end Go.Proofs.Ythfanjdbemoaaaa.XFnPlies
