/- The functions that the law FnExactFewestOpened reaches: each as a Lean function, and that its call does what that function says; no conditions. -/
import Derived.Test.YtjhjabibkkhmjaaXFnExactFewestOpenedx0
import Derived.Test.YtjhjabibkkhmjaaXFnExactFewestOpenedx4
namespace Go.Proofs.Ytjhjabibkkhmjaa.XFnExactFewestOpened
open Go.RowKit Go.Proofs.YtjhjabibkkhmjaaW.PrintWords Go.Proofs.YtjhjabibkkhmjaaW.PrintLast Go.Proofs.YtjhjabibkkhmjaaW.PrintMore
attribute [local go_sem] max2_int min2_int max_two min_two max_three min_three max_four min_four   -- for this text's walks alone
set_option linter.unusedVariables false
set_option linter.unusedSimpArgs false

/-! ### impl_FewestOpened_1: function 99 -/
mutual
/-- Cuts the needs from i on: own, left, best, least behind it. -/
def impl_FewestOpened_1.f (l : List S88) (D : List Int) : Nat → Int → Int → List Int → List Int → List Int → Int → Option (List Int × List Int × List Int × Int)
  | 0, _, _, _, _, _, _ => none
  | k + 1, i, opened, O, L, B, m =>
    if m ≥ 0 ∧ opened ≥ m then some (O, L, B, m)
    else if i = (D.length : Int) then (slices_Clone_int64_int64.f O).bind fun B2 => some (O, L, B2, opened)
    else impl_FewestOpened_1.l0 l D k i opened (L.length : Int) 0 O L B m
def impl_FewestOpened_1.l0 (l : List S88) (D : List Int) : Nat → Int → Int → Int → Int → List Int → List Int → List Int → Int → Option (List Int × List Int × List Int × Int)
  | 0, _, _, _, _, _, _, _, _ => none
  | k + 1, i, opened, bd, x, O, L, B, m =>
    if x < bd then
      (if 0 ≤ i ∧ i < (D.length : Int) ∧ i < (O.length : Int) ∧ 0 ≤ x ∧ x < (L.length : Int) ∧ x < (l.length : Int) then
        (if rd L x < rd D i then impl_FewestOpened_1.l0 l D k i opened bd (wrap64 (x + 1)) O L B m
        else (impl_FewestOpened_1.f l D k (wrap64 (i + 1)) (if rd L x = wrap64 (rd_T88 l x).f0 then wrap64 (opened + 1) else opened) (O.set i.toNat x) (L.set x.toNat (wrap64 (rd L x - rd D i))) B m).bind fun r =>
          if x < (r.2.1.length : Int) then impl_FewestOpened_1.l0 l D k i opened bd (wrap64 (x + 1)) r.1 (r.2.1.set x.toNat (wrap64 (rd r.2.1 x + rd D i))) r.2.2.1 r.2.2.2 else none)
      else none)
    else some (O, L, B, m)
end
theorem impl_FewestOpened_1.mono_l (l : List S88) (D : List Int) : ∀ k, (∀ i op O L B m, LeO (impl_FewestOpened_1.f l D k i op O L B m) (impl_FewestOpened_1.f l D (k + 1) i op O L B m)) ∧ (∀ i op bd x O L B m, LeO (impl_FewestOpened_1.l0 l D k i op bd x O L B m) (impl_FewestOpened_1.l0 l D (k + 1) i op bd x O L B m))
  | 0 => ⟨fun _ _ _ _ _ _ r h => by simp [impl_FewestOpened_1.f] at h, fun _ _ _ _ _ _ _ _ r h => by simp [impl_FewestOpened_1.l0] at h⟩
  | k + 1 => by
    obtain ⟨ih1, ih2⟩ := impl_FewestOpened_1.mono_l l D k
    constructor
    · intro i op O L B m
      rw [impl_FewestOpened_1.f, impl_FewestOpened_1.f]
      repeat' first
        | exact ih2 _ _ _ _ _ _ _ _
        | (with_reducible exact LeO.refl _)
        | (with_reducible refine LeO.ite ?_ ?_)
        | (with_reducible refine LeO.bind ?_ (fun _ => ?_))
    · intro i op bd x O L B m
      rw [impl_FewestOpened_1.l0, impl_FewestOpened_1.l0]
      repeat' first
        | exact ih1 _ _ _ _ _ _
        | exact ih2 _ _ _ _ _ _ _ _
        | (with_reducible exact LeO.refl _)
        | (with_reducible refine LeO.ite ?_ ?_)
        | (with_reducible refine LeO.bind ?_ (fun _ => ?_))
theorem impl_FewestOpened_1.far {W : World} {base : Nat} {v : Value} {xs : List Int} (h : Kd.R (Kd.int .i64) 2 W base (fun _ => True) v xs) {q : Nat} (hne : some q ≠ v.ownBlock) (j : Nat) (u : Value) : Kd.R (Kd.int .i64) 2 (W.setCell ⟨q, j, none⟩ u) base (fun _ => True) v xs :=
  Kd.R_mono (Kd.R_far (p := ⟨q, j, none⟩) (Kd.R_far1 h rfl hne) (fun _ hk => hk.2) u) (fun _ _ => trivial)
/-- The closure's variables: the boxes gl (left), gm (least), gL (list), go (own), gb (best), gp (needs), gf (cut), the rows bo and bl. -/
structure impl_FewestOpened_1.Inv (w W : World) (A0 : Option Addr) (c0 : Nat) (l : List S88) (Nd : Option Addr) (cd : Nat) (D : List Int) (AL : Option Addr) (gl gm gL go gb gp gf bo bl co cl : Nat) (O L B : List Int) (m : Int) (vB : Value) : Prop where
  b : Below w.heap.size w W
  lo : ∀ g ∈ [gl, gm, gL, go, gb, gp, gf, bo, bl], w.heap.size ≤ g
  nd : [gl, gm, gL, go, gb, gp, gf, bo, bl].Nodup
  hL : W.heap[gL]? = some (.cells #[.slice A0 l.length c0] 37 (0, 0))
  hp : W.heap[gp]? = some (.cells #[.slice Nd D.length cd] 25 (0, 0))
  ho : W.heap[go]? = some (.cells #[.slice (some ⟨bo, 0, none⟩) O.length co] 25 (0, 0))
  hl : W.heap[gl]? = some (.cells #[.slice AL L.length cl] 25 (0, 0))
  hb : W.heap[gb]? = some (.cells #[vB] 25 (0, 0))
  hm : W.heap[gm]? = some (.cells #[.int .i64 m] 2 (0, 0))
  hf : W.heap[gf]? = some (.cells #[.func (.func 99) #[] #[.pointer (some ⟨gm, 0, none⟩), .pointer (some ⟨gp, 0, none⟩), .pointer (some ⟨go, 0, none⟩), .pointer (some ⟨gb, 0, none⟩), .pointer (some ⟨gl, 0, none⟩), .pointer (some ⟨gL, 0, none⟩), .pointer (some ⟨gf, 0, none⟩)]] 118 (0, 0))
  ro : Kd.R (Kd.int .i64) 2 W w.heap.size (fun _ => True) (.slice (some ⟨bo, 0, none⟩) O.length co) O
  rl : Kd.R (Kd.int .i64) 2 W w.heap.size (fun _ => True) (.slice AL L.length cl) L
  rb : Kd.R (Kd.int .i64) 2 W w.heap.size (fun _ => True) vB B
  n1 : some bo ≠ vB.ownBlock
  n2 : AL = some ⟨bl, 0, none⟩ → some bl ≠ vB.ownBlock
  n3 : some gm ≠ vB.ownBlock
  hA : AL = some ⟨bl, 0, none⟩ ∨ (AL = none ∧ L = [])
section
variable {w W : World} {A0 : Option Addr} {c0 : Nat} {l : List S88} {Nd : Option Addr} {cd : Nat} {D : List Int} {AL : Option Addr} {gl gm gL go gb gp gf bo bl co cl : Nat} {O L B : List Int} {m : Int} {vB : Value}
theorem impl_FewestOpened_1.Inv.next (h : impl_FewestOpened_1.Inv w W A0 c0 l Nd cd D AL gl gm gL go gb gp gf bo bl co cl O L B m vB) {W' : World} (hb : Below W.heap.size W W') : impl_FewestOpened_1.Inv w W' A0 c0 l Nd cd D AL gl gm gL go gb gp gf bo bl co cl O L B m vB :=
  ⟨below_then h.b h.b.size hb, h.lo, h.nd, blk_below h.hL hb, blk_below h.hp hb, blk_below h.ho hb, blk_below h.hl hb, blk_below h.hb hb, blk_below h.hm hb, blk_below h.hf hb, Kd.R_below h.ro hb, Kd.R_below h.rl hb, Kd.R_below h.rb hb, h.n1, h.n2, h.n3, h.hA⟩
theorem impl_FewestOpened_1.Inv.drew (h : impl_FewestOpened_1.Inv w W A0 c0 l Nd cd D AL gl gm gL go gb gp gf bo bl co cl O L B m vB) (n : Nat) : impl_FewestOpened_1.Inv w (W.drewN n) A0 c0 l Nd cd D AL gl gm gL go gb gp gf bo bl co cl O L B m vB :=
  h.next (pw_below_drewN (Below.refl _ _) n)
theorem impl_FewestOpened_1.Inv.ne (h : impl_FewestOpened_1.Inv w W A0 c0 l Nd cd D AL gl gm gL go gb gp gf bo bl co cl O L B m vB) : (gl ≠ bo ∧ gm ≠ bo ∧ gL ≠ bo ∧ go ≠ bo ∧ gb ≠ bo ∧ gp ≠ bo ∧ gf ≠ bo ∧ bl ≠ bo) ∧ (gl ≠ bl ∧ gm ≠ bl ∧ gL ≠ bl ∧ go ≠ bl ∧ gb ≠ bl ∧ gp ≠ bl ∧ gf ≠ bl ∧ bo ≠ bl) ∧ (gl ≠ gb ∧ gm ≠ gb ∧ gL ≠ gb ∧ go ≠ gb ∧ gp ≠ gb ∧ gf ≠ gb ∧ bo ≠ gb ∧ bl ≠ gb) ∧ (gl ≠ gm ∧ gb ≠ gm ∧ gL ≠ gm ∧ go ≠ gm ∧ gp ≠ gm ∧ gf ≠ gm ∧ bo ≠ gm ∧ bl ≠ gm) := by
  have p := fun (i j : Nat) (hi : i < 9) (hj : j < 9) (hij : i < j) => List.pairwise_iff_getElem.1 h.nd i j hi hj hij
  exact ⟨⟨p 0 7 (by decide) (by decide) (by decide), p 1 7 (by decide) (by decide) (by decide), p 2 7 (by decide) (by decide) (by decide), p 3 7 (by decide) (by decide) (by decide), p 4 7 (by decide) (by decide) (by decide), p 5 7 (by decide) (by decide) (by decide), p 6 7 (by decide) (by decide) (by decide), (p 7 8 (by decide) (by decide) (by decide)).symm⟩,
    ⟨p 0 8 (by decide) (by decide) (by decide), p 1 8 (by decide) (by decide) (by decide), p 2 8 (by decide) (by decide) (by decide), p 3 8 (by decide) (by decide) (by decide), p 4 8 (by decide) (by decide) (by decide), p 5 8 (by decide) (by decide) (by decide), p 6 8 (by decide) (by decide) (by decide), p 7 8 (by decide) (by decide) (by decide)⟩,
    ⟨p 0 4 (by decide) (by decide) (by decide), p 1 4 (by decide) (by decide) (by decide), p 2 4 (by decide) (by decide) (by decide), p 3 4 (by decide) (by decide) (by decide), (p 4 5 (by decide) (by decide) (by decide)).symm, (p 4 6 (by decide) (by decide) (by decide)).symm, (p 4 7 (by decide) (by decide) (by decide)).symm, (p 4 8 (by decide) (by decide) (by decide)).symm⟩,
    ⟨p 0 1 (by decide) (by decide) (by decide), (p 1 4 (by decide) (by decide) (by decide)).symm, (p 1 2 (by decide) (by decide) (by decide)).symm, (p 1 3 (by decide) (by decide) (by decide)).symm, (p 1 5 (by decide) (by decide) (by decide)).symm, (p 1 6 (by decide) (by decide) (by decide)).symm, (p 1 7 (by decide) (by decide) (by decide)).symm, (p 1 8 (by decide) (by decide) (by decide)).symm⟩⟩
theorem impl_FewestOpened_1.Inv.own (h : impl_FewestOpened_1.Inv w W A0 c0 l Nd cd D AL gl gm gL go gb gp gf bo bl co cl O L B m vB) {q : Nat} (e : some q = (Value.slice AL L.length cl).ownBlock) : q = bl := by
  rcases h.hA with e2 | ⟨e2, _⟩
  · rw [e2] at e; simpa [Value.ownBlock] using e
  · rw [e2] at e; simp [Value.ownBlock] at e
theorem impl_FewestOpened_1.Inv.setO (h : impl_FewestOpened_1.Inv w W A0 c0 l Nd cd D AL gl gm gL go gb gp gf bo bl co cl O L B m vB) (i : Int) (x : Int) : impl_FewestOpened_1.Inv w (W.setCell ⟨bo, i.toNat, none⟩ (.int .i64 x)) A0 c0 l Nd cd D AL gl gm gL go gb gp gf bo bl co cl (O.set i.toNat x) L B m vB := by
  obtain ⟨⟨a1, a2, a3, a4, a5, a6, a7, a8⟩, _⟩ := h.ne
  have e : (O.set i.toNat x).length = O.length := List.length_set
  refine ⟨below_set h.b (h.lo bo (by simp)), h.lo, h.nd, blk_far h.hL a3 _, blk_far h.hp a6 _, by rw [e]; exact blk_far h.ho a4 _, blk_far h.hl a1 _, blk_far h.hb a5 _, blk_far h.hm a2 _, blk_far h.hf a7 _, by rw [e]; exact Kd.R_putn h.ro i x, impl_FewestOpened_1.far h.rl (fun e => a8 (h.own e).symm) _ _, impl_FewestOpened_1.far h.rb h.n1 _ _, h.n1, h.n2, h.n3, h.hA⟩
theorem impl_FewestOpened_1.Inv.setL (h : impl_FewestOpened_1.Inv w W A0 c0 l Nd cd D (some ⟨bl, 0, none⟩) gl gm gL go gb gp gf bo bl co cl O L B m vB) (i : Int) (x : Int) : impl_FewestOpened_1.Inv w (W.setCell ⟨bl, i.toNat, none⟩ (.int .i64 x)) A0 c0 l Nd cd D (some ⟨bl, 0, none⟩) gl gm gL go gb gp gf bo bl co cl O (L.set i.toNat x) B m vB := by
  obtain ⟨_, ⟨a1, a2, a3, a4, a5, a6, a7, a8⟩, _⟩ := h.ne
  have e : (L.set i.toNat x).length = L.length := List.length_set
  refine ⟨below_set h.b (h.lo bl (by simp)), h.lo, h.nd, blk_far h.hL a3 _, blk_far h.hp a6 _, blk_far h.ho a4 _, by rw [e]; exact blk_far h.hl a1 _, blk_far h.hb a5 _, blk_far h.hm a2 _, blk_far h.hf a7 _, impl_FewestOpened_1.far h.ro (by simp [Value.ownBlock]; exact fun e => a8 e.symm) _ _, by rw [e]; exact Kd.R_putn h.rl i x, impl_FewestOpened_1.far h.rb (h.n2 rfl) _ _, h.n1, h.n2, h.n3, Or.inl rfl⟩
/-- A new best list, and how even it is. -/
theorem impl_FewestOpened_1.Inv.best (h : impl_FewestOpened_1.Inv w W A0 c0 l Nd cd D AL gl gm gL go gb gp gf bo bl co cl O L B m vB) {v2 : Value} {B2 : List Int} (hr : Kd.R (Kd.int .i64) 2 W w.heap.size (fun _ => True) v2 B2) (k1 : some bo ≠ v2.ownBlock) (k2 : AL = some ⟨bl, 0, none⟩ → some bl ≠ v2.ownBlock) (k3 : some gm ≠ v2.ownBlock) (x : Int) : impl_FewestOpened_1.Inv w ((W.setCell ⟨gb, 0, none⟩ v2).setCell ⟨gm, 0, none⟩ (.int .i64 x)) A0 c0 l Nd cd D AL gl gm gL go gb gp gf bo bl co cl O L B2 x v2 := by
  obtain ⟨_, _, ⟨a1, a2, a3, a4, a5, a6, a7, a8⟩, ⟨b1, b2, b3, b4, b5, b6, b7, b8⟩⟩ := h.ne
  have far2 : ∀ {v : Value} {xs : List Int}, Kd.R (Kd.int .i64) 2 W w.heap.size (fun _ => True) v xs → Kd.R (Kd.int .i64) 2 (W.setCell ⟨gb, 0, none⟩ v2) w.heap.size (fun _ => True) v xs := fun hx => Kd.R_mono (Kd.R_far (p := ⟨gb, 0, none⟩) (Kd.R_types hx h.hb (by decide)) (fun _ hk => hk.2) _) (fun _ _ => trivial)
  refine ⟨below_set (below_set h.b (h.lo gb (by simp))) (h.lo gm (by simp)), h.lo, h.nd, blk_far (blk_far h.hL a3 _) b3 _, blk_far (blk_far h.hp a5 _) b5 _, blk_far (blk_far h.ho a4 _) b4 _, blk_far (blk_far h.hl a1 _) b1 _, blk_far (blk_put (cs := #[vB]) h.hb 0 v2 rfl) b2 _, blk_put (cs := #[.int .i64 m]) (blk_far h.hm a2 _) 0 _ rfl, blk_far (blk_far h.hf a6 _) b6 _, impl_FewestOpened_1.far (far2 h.ro) (by simp [Value.ownBlock]; exact fun e => b7 e.symm) _ _, impl_FewestOpened_1.far (far2 h.rl) (fun e => b8 (h.own e).symm) _ _, impl_FewestOpened_1.far (far2 hr) k3 _ _, k1, k2, k3, h.hA⟩
end
/-- A row that is new lies apart. -/
theorem impl_FewestOpened_1.apart {W W' : World} {v : Value} {xs : List Int} (h : Kd.R (Kd.int .i64) 2 W' W.heap.size (fun _ => True) v xs) {q : Nat} (hq : q < W.heap.size) : some q ≠ v.ownBlock := fun e => by
  have := Kd.R_base h q e.symm
  omega
theorem impl_FewestOpened_1.eg : ∀ args w, (callFunc 99 args).run Try.prog w = .ok (.enter 99 args) w := enters_of Try.func99 (by kernel_rfl) rfl
set_option maxHeartbeats 8000000 in
set_option maxRecDepth 100000 in
theorem impl_FewestOpened_1.calls (w : World) (A0 : Option Addr) (c0 : Nat) (l : List S88) (Nd : Option Addr) (cd : Nat) (D : List Int) (AL : Option Addr) (gl gm gL go gb gp gf bo bl co cl : Nat) (hC : Kd.C k88 w A0 l.length l) (hD : Kd.C (Kd.int .i64) w Nd D.length D) : ∀ (k : Nat) (i op : Int) (O L B : List Int) (m : Int) (vB : Value) (W : World) (r1 r2 r3 : List Int) (r4 : Int), impl_FewestOpened_1.Inv w W A0 c0 l Nd cd D AL gl gm gL go gb gp gf bo bl co cl O L B m vB → impl_FewestOpened_1.f l D k i op O L B m = some (r1, r2, r3, r4) →
    Calls Try.prog 99 (#[.int .i64 i, .int .i64 op] ++ #[.pointer (some ⟨gm, 0, none⟩), .pointer (some ⟨gp, 0, none⟩), .pointer (some ⟨go, 0, none⟩), .pointer (some ⟨gb, 0, none⟩), .pointer (some ⟨gl, 0, none⟩), .pointer (some ⟨gL, 0, none⟩), .pointer (some ⟨gf, 0, none⟩)]) W fun e w' => e = .returned (.tuple #[]) ∧ ∃ vB2, impl_FewestOpened_1.Inv w w' A0 c0 l Nd cd D AL gl gm gL go gb gp gf bo bl co cl r1 r2 r3 r4 vB2 := by
  simp only [List.append_toArray, List.cons_append, List.nil_append]
  intro k
  have HCC := Aside0.mk hC
  have HDC := Aside0.mk hD
  clear hC hD
  induction k using Nat.strongRecOn with
  | _ k IH =>
  intro i op O L B m vB W r1 r2 r3 r4 hI h
  cases k with
  | zero => simp [impl_FewestOpened_1.f] at h
  | succ k =>
    have IHa := Aside0.mk IH
    clear IH
    rw [impl_FewestOpened_1.f] at h
    have hcl : W.cell? ⟨gl, 0, none⟩ = some (.slice AL L.length cl) := (blk_cell hI.hl 0).trans rfl
    have hcm : W.cell? ⟨gm, 0, none⟩ = some (.int .i64 m) := (blk_cell hI.hm 0).trans rfl
    have hco : W.cell? ⟨go, 0, none⟩ = some (.slice (some ⟨bo, 0, none⟩) O.length co) := (blk_cell hI.ho 0).trans rfl
    have hcn : W.cell? ⟨gp, 0, none⟩ = some (.slice Nd D.length cd) := (blk_cell hI.hp 0).trans rfl
    have HI := Aside0.mk hI
    clear hI
    by_cases h1 : m ≥ 0 ∧ op ≥ m
    · rw [if_pos h1] at h
      have e := Option.some.inj h
      simp only [Prod.mk.injEq] at e
      obtain ⟨rfl, rfl, rfl, rfl⟩ := e
      obtain ⟨h1a, h1b⟩ := h1
      have d2 : decide (0 ≤ m) = true := decide_eq_true h1a
      have d3 : decide (m ≤ op) = true := decide_eq_true h1b
      clear h
      go_enter Try.func99, Try.ntmps99
      go_wp2
      refine bodyPost_ret (results_none rfl _ _ _) rfl ⟨rfl, vB, HI.out⟩
    · rw [if_neg h1] at h
      by_cases hi : i = (D.length : Int)
      · rw [if_pos hi] at h
        obtain ⟨B2, hB2, h⟩ := Option.bind_eq_some_iff.mp h
        have e := Option.some.inj h
        simp only [Prod.mk.injEq] at e
        obtain ⟨rfl, rfl, rfl, rfl⟩ := e
        have HB2 := Aside0.mk hB2
        have hi1 : (i == (D.length : Int)) = true := beq_iff_eq.mpr hi
        clear h hB2
        by_cases hm0 : m ≥ 0
        · have hmm : ¬ m ≤ op := fun z => h1 ⟨hm0, z⟩
          have d1 : decide (0 ≤ m) = true := decide_eq_true hm0
          have d2 : decide (m ≤ op) = false := decide_eq_false hmm
          clear h1 hmm
          go_enter Try.func99, Try.ntmps99
          go_wp2_with (first | (go_at_call 93; refine (slices_Clone_int64_int64.calls _ co O B2 _ (Kd.R_reads' HI.out.ro).2.2 (Kd.R_reads' HI.out.ro).2.1 HB2.out).mono ?_; rintro e w3 ⟨v3, rfl, ho3, hb3⟩; have HI3 := Aside0.mk (HI.out.next hb3); have HR3 := Aside0.mk (Kd.R_lower ho3 HI.out.b.size); have K1 := Aside0.mk (impl_FewestOpened_1.apart ho3 (Kd.R_lt HI.out.ro bo (by simp [Value.ownBlock]))); have K2 : Aside0 (AL = some ⟨bl, 0, none⟩ → some bl ≠ v3.ownBlock) := ⟨fun e => impl_FewestOpened_1.apart ho3 (Kd.R_lt HI.out.rl bl (by rw [e]; simp [Value.ownBlock]))⟩; have K3 := Aside0.mk (impl_FewestOpened_1.apart ho3 (blk_lt HI.out.hm)); obtain ⟨A3, c3, e3⟩ := Kd.R_slice ho3; subst e3; have hcb3 : w3.cell? ⟨gb, 0, none⟩ = some vB := (blk_cell HI3.out.hb 0).trans rfl; have hfb3 := blk_frozen HI3.out.hb 0; have hcm3 : w3.cell? ⟨gm, 0, none⟩ = some (.int .i64 m) := (blk_cell HI3.out.hm 0).trans rfl; have hfm3 := blk_frozen HI3.out.hm 0; have nbm : ¬ gb = gm := HI3.out.ne.2.2.2.2.1; have nmb : ¬ gm = gb := fun e => nbm e.symm; clear ho3 hb3))
          refine bodyPost_ret (results_none rfl _ _ _) rfl ⟨rfl, _, HI3.out.best HR3.out K1.out K2.out K3.out op⟩
        · have hm1 : ¬ 0 ≤ m := hm0
          have d1 : decide (0 ≤ m) = false := decide_eq_false hm0
          clear h1
          go_enter Try.func99, Try.ntmps99
          go_wp2_with (first | (go_at_call 93; refine (slices_Clone_int64_int64.calls _ co O B2 _ (Kd.R_reads' HI.out.ro).2.2 (Kd.R_reads' HI.out.ro).2.1 HB2.out).mono ?_; rintro e w3 ⟨v3, rfl, ho3, hb3⟩; have HI3 := Aside0.mk (HI.out.next hb3); have HR3 := Aside0.mk (Kd.R_lower ho3 HI.out.b.size); have K1 := Aside0.mk (impl_FewestOpened_1.apart ho3 (Kd.R_lt HI.out.ro bo (by simp [Value.ownBlock]))); have K2 : Aside0 (AL = some ⟨bl, 0, none⟩ → some bl ≠ v3.ownBlock) := ⟨fun e => impl_FewestOpened_1.apart ho3 (Kd.R_lt HI.out.rl bl (by rw [e]; simp [Value.ownBlock]))⟩; have K3 := Aside0.mk (impl_FewestOpened_1.apart ho3 (blk_lt HI.out.hm)); obtain ⟨A3, c3, e3⟩ := Kd.R_slice ho3; subst e3; have hcb3 : w3.cell? ⟨gb, 0, none⟩ = some vB := (blk_cell HI3.out.hb 0).trans rfl; have hfb3 := blk_frozen HI3.out.hb 0; have hcm3 : w3.cell? ⟨gm, 0, none⟩ = some (.int .i64 m) := (blk_cell HI3.out.hm 0).trans rfl; have hfm3 := blk_frozen HI3.out.hm 0; have nbm : ¬ gb = gm := HI3.out.ne.2.2.2.2.1; have nmb : ¬ gm = gb := fun e => nbm e.symm; clear ho3 hb3))
          refine bodyPost_ret (results_none rfl _ _ _) rfl ⟨rfl, _, HI3.out.best HR3.out K1.out K2.out K3.out op⟩
      · rw [if_neg hi] at h
        have hi1 : (i == (D.length : Int)) = false := beq_eq_false_iff_ne.mpr hi
        have HL := Aside0.mk h
        clear h
        by_cases hm0 : m ≥ 0
        · have hmm : ¬ m ≤ op := fun z => h1 ⟨hm0, z⟩
          have d1 : decide (0 ≤ m) = true := decide_eq_true hm0
          have d2 : decide (m ≤ op) = false := decide_eq_false hmm
          clear h1 hmm
          go_enter Try.func99, Try.ntmps99
          go_wp2
          clear hcm hco
          go_loopg [29] k (fun gq v29 W2 => ∃ (x : Int) (O1 L1 B1 : List Int) (m1 : Int) (vB1 : Value), v29 = .int .i64 x ∧ Aside0 (impl_FewestOpened_1.l0 l D gq i op (L.length : Int) x O1 L1 B1 m1 = some (r1, r2, r3, r4)) ∧ Aside0 (gq ≤ k) ∧ Aside0 (impl_FewestOpened_1.Inv w W2 A0 c0 l Nd cd D AL gl gm gL go gb gp gf bo bl co cl O1 L1 B1 m1 vB1))
          case atStart => exact ⟨0, O, L, B, m, vB, rfl, HL, ⟨Nat.le_refl _⟩, HI⟩
          case round =>
            clear HL HI hcl hcn
            obtain ⟨x, O1, L1, B1, m1, vB1, rfl, HL, HK, HI⟩ := hrel
            cases gk with
            | zero => exact absurd HL.out (by simp [impl_FewestOpened_1.l0])
            | succ g =>
              have H := HL.out
              rw [impl_FewestOpened_1.l0] at H
              clear HL
              by_cases hx : x < (L.length : Int)
              · rw [if_pos hx] at H
                by_cases hg : 0 ≤ i ∧ i < (D.length : Int) ∧ i < (O1.length : Int) ∧ 0 ≤ x ∧ x < (L1.length : Int) ∧ x < (l.length : Int)
                · rw [if_pos hg] at H
                  obtain ⟨g1, g2, g3, g4, g5, g6⟩ := hg
                  rcases HI.out.hA with hAL | ⟨_, hLn⟩
                  rotate_left
                  · rw [hLn] at g5; simp at g5; omega
                  subst hAL
                  have hcl : wr.cell? ⟨gl, 0, none⟩ = some (.slice (some ⟨bl, 0, none⟩) L1.length cl) := (blk_cell HI.out.hl 0).trans rfl
                  have hcn : wr.cell? ⟨gp, 0, none⟩ = some (.slice Nd D.length cd) := (blk_cell HI.out.hp 0).trans rfl
                  obtain ⟨hxc, hxf⟩ := Kd.R_celln 0 HI.out.rl x g4 g5
                  replace hxc : wr.cell? ⟨bl, x.toNat, none⟩ = some (.int .i64 (rd L1 x)) := hxc
                  obtain ⟨adn, en, hnc⟩ := Kd.at_int (Kd.C_below HDC.out HI.out.b) i g1 g2
                  cases en
                  by_cases hlt : rd L1 x < rd D i
                  · rw [if_pos hlt] at H
                    have HL := Aside0.mk H
                    have q1 : decide (rd L1 x < rd D i) = true := decide_eq_true hlt
                    clear H hlt
                    go_wp2
                    refine wp_region_still_lit (by kernel_rfl) (by kernel_rfl) ?_
                    repeat still_step
                    refine wpStill_nil ?_
                    change Exit.then _ _ _ _ (wr.drewN 1)
                    have HI2 := Aside0.mk (HI.out.drew 1)
                    clear hcl hcn hxc hxf hnc HI
                    generalize wr.drewN 1 = W3 at *
                    go_wp2
                    go_roundg g
                    case measure => omega
                    case rel => exact ⟨wrap64 (x + 1), O1, L1, B1, m1, vB1, rfl, HL, ⟨by have := HK.out; omega⟩, HI2⟩
                  · rw [if_neg hlt] at H
                    obtain ⟨⟨O2, L2, B2, m2⟩, hput, H⟩ := Option.bind_eq_some_iff.mp H
                    simp only at H
                    by_cases hx2 : x < (L2.length : Int)
                    · rw [if_pos hx2] at H
                      have HL := Aside0.mk H
                      have q1 : decide (rd L1 x < rd D i) = false := decide_eq_false hlt
                      clear H hlt
                      go_wp2
                      refine wp_region_still_lit (by kernel_rfl) (by kernel_rfl) ?_
                      repeat still_step
                      refine wpStill_nil ?_
                      change Exit.then _ _ _ _ (wr.drewN 1)
                      have HI2 := Aside0.mk (HI.out.drew 1)
                      clear hcl hcn hxc hxf hnc HI q1
                      generalize wr.drewN 1 = W3 at *
                      have hcl : W3.cell? ⟨gl, 0, none⟩ = some (.slice (some ⟨bl, 0, none⟩) L1.length cl) := (blk_cell HI2.out.hl 0).trans rfl
                      have hcL : W3.cell? ⟨gL, 0, none⟩ = some (.slice A0 l.length c0) := (blk_cell HI2.out.hL 0).trans rfl
                      obtain ⟨hxc, hxf⟩ := Kd.R_celln 0 HI2.out.rl x g4 g5
                      replace hxc : W3.cell? ⟨bl, x.toNat, none⟩ = some (.int .i64 (rd L1 x)) := hxc
                      obtain ⟨ady, ey, hy0, hy1, hy2⟩ := at_T88 (Kd.C_below HCC.out HI2.out.b) x g4 g6
                      cases ey
                      by_cases hop : rd L1 x = wrap64 (rd_T88 l x).f0
                      · rw [if_pos hop] at hput
                        have q2 : (rd L1 x == IntKind.i64.wrap (rd_T88 l x).f0) = true := by rw [show IntKind.i64.wrap (rd_T88 l x).f0 = wrap64 (rd_T88 l x).f0 from by unfold wrap64; exact IntKind.wrap_i64 _]; exact beq_iff_eq.mpr hop
                        have HP := Aside0.mk hput
                        clear hput hop
                        go_wp2
                        refine wp_region_still_lit (by kernel_rfl) (by kernel_rfl) ?_
                        repeat still_step
                        refine wpStill_nil ?_
                        change Exit.then _ _ _ _ (W3.drewN 1)
                        have HI4 := Aside0.mk (HI2.out.drew 1)
                        clear hcl hcL hxc hxf hy0 hy1 hy2 HI2
                        generalize W3.drewN 1 = W4 at *
                        have hco : W4.cell? ⟨go, 0, none⟩ = some (.slice (some ⟨bo, 0, none⟩) O1.length co) := (blk_cell HI4.out.ho 0).trans rfl
                        obtain ⟨hce, hfe⟩ := Kd.R_celln 0 HI4.out.ro i g1 g3
                        go_wp2
                        have HI5 := Aside0.mk (HI4.out.setO i x)
                        clear hco hce hfe HI4 q2
                        generalize W4.setCell ⟨bo, i.toNat, none⟩ (.int .i64 x) = W5 at *
                        have hcl : W5.cell? ⟨gl, 0, none⟩ = some (.slice (some ⟨bl, 0, none⟩) L1.length cl) := (blk_cell HI5.out.hl 0).trans rfl
                        have hcn : W5.cell? ⟨gp, 0, none⟩ = some (.slice (some adn) D.length cd) := (blk_cell HI5.out.hp 0).trans rfl
                        obtain ⟨hxc, hxf⟩ := Kd.R_celln 0 HI5.out.rl x g4 g5
                        replace hxc : W5.cell? ⟨bl, x.toNat, none⟩ = some (.int .i64 (rd L1 x)) := hxc
                        obtain ⟨adn2, en2, hnc⟩ := Kd.at_int (Kd.C_below HDC.out HI5.out.b) i g1 g2
                        cases en2
                        go_still_tail 10, (by kernel_rfl)
                        change wpList _ _ _ _ _ (W5.drewN 1)
                        have HI6 := Aside0.mk (HI5.out.drew 1)
                        clear hcl hcn hxc hxf hnc HI5
                        generalize W5.drewN 1 = W6 at *
                        obtain ⟨hx6, hfx6⟩ := Kd.R_celln 0 HI6.out.rl x g4 g5
                        have hcf6 : W6.cell? ⟨gf, 0, none⟩ = some (.func (.func 99) #[] #[.pointer (some ⟨gm, 0, none⟩), .pointer (some ⟨gp, 0, none⟩), .pointer (some ⟨go, 0, none⟩), .pointer (some ⟨gb, 0, none⟩), .pointer (some ⟨gl, 0, none⟩), .pointer (some ⟨gL, 0, none⟩), .pointer (some ⟨gf, 0, none⟩)]) := (blk_cell HI6.out.hf 0).trans rfl
                        have nfb : ¬ gf = bl := HI6.out.ne.2.1.2.2.2.2.2.2.1
                        have nbf : ¬ bl = gf := fun e => nfb e.symm
                        have eg := impl_FewestOpened_1.eg
                        go_wp2_with (go_at_fn 99; refine (IHa.out g (by have := HK.out; omega) (wrap64 (i + 1)) (wrap64 (op + 1)) (O1.set i.toNat x) (L1.set x.toNat (wrap64 (rd L1 x - rd D i))) B1 m1 vB1 _ O2 L2 B2 m2 (HI6.out.setL x _) HP.out).mono ?_; rintro e w7 ⟨rfl, vB2, hI7⟩; have HI7 := Aside0.mk hI7; clear hI7 HI6)
                        clear hx6 hfx6 hcf6 eg
                        all_goals
                          have hcl7 : w7.cell? ⟨gl, 0, none⟩ = some (.slice (some ⟨bl, 0, none⟩) L2.length cl) := (blk_cell HI7.out.hl 0).trans rfl
                          have hcn7 : w7.cell? ⟨gp, 0, none⟩ = some (.slice (some adn) D.length cd) := (blk_cell HI7.out.hp 0).trans rfl
                          obtain ⟨hx7, hfx7⟩ := Kd.R_celln 0 HI7.out.rl x g4 hx2
                          replace hx7 : w7.cell? ⟨bl, x.toNat, none⟩ = some (.int .i64 (rd L2 x)) := hx7
                          obtain ⟨adn3, en3, hnc7⟩ := Kd.at_int (Kd.C_below HDC.out HI7.out.b) i g1 g2
                          cases en3
                          go_still_tail 10, (by kernel_rfl)
                          change wpList _ _ _ _ _ (w7.drewN 1)
                          have HI8 := Aside0.mk (HI7.out.drew 1)
                          clear hcl7 hcn7 hx7 hfx7 hnc7 HI7
                          generalize w7.drewN 1 = W8 at *
                          obtain ⟨hx8, hfx8⟩ := Kd.R_celln 0 HI8.out.rl x g4 hx2
                          go_wp2
                          go_roundg g
                          case measure => omega
                          case rel => exact ⟨wrap64 (x + 1), O2, L2.set x.toNat (wrap64 (rd L2 x + rd D i)), B2, m2, vB2, rfl, HL, ⟨by have := HK.out; omega⟩, ⟨HI8.out.setL x _⟩⟩
                      · rw [if_neg hop] at hput
                        have q2 : (rd L1 x == IntKind.i64.wrap (rd_T88 l x).f0) = false := by rw [show IntKind.i64.wrap (rd_T88 l x).f0 = wrap64 (rd_T88 l x).f0 from by unfold wrap64; exact IntKind.wrap_i64 _]; exact beq_eq_false_iff_ne.mpr hop
                        have HP := Aside0.mk hput
                        clear hput hop
                        go_wp2
                        refine wp_region_still_lit (by kernel_rfl) (by kernel_rfl) ?_
                        repeat still_step
                        refine wpStill_nil ?_
                        change Exit.then _ _ _ _ (W3.drewN 1)
                        have HI4 := Aside0.mk (HI2.out.drew 1)
                        clear hcl hcL hxc hxf hy0 hy1 hy2 HI2
                        generalize W3.drewN 1 = W4 at *
                        have hco : W4.cell? ⟨go, 0, none⟩ = some (.slice (some ⟨bo, 0, none⟩) O1.length co) := (blk_cell HI4.out.ho 0).trans rfl
                        obtain ⟨hce, hfe⟩ := Kd.R_celln 0 HI4.out.ro i g1 g3
                        go_wp2
                        have HI5 := Aside0.mk (HI4.out.setO i x)
                        clear hco hce hfe HI4 q2
                        generalize W4.setCell ⟨bo, i.toNat, none⟩ (.int .i64 x) = W5 at *
                        have hcl : W5.cell? ⟨gl, 0, none⟩ = some (.slice (some ⟨bl, 0, none⟩) L1.length cl) := (blk_cell HI5.out.hl 0).trans rfl
                        have hcn : W5.cell? ⟨gp, 0, none⟩ = some (.slice (some adn) D.length cd) := (blk_cell HI5.out.hp 0).trans rfl
                        obtain ⟨hxc, hxf⟩ := Kd.R_celln 0 HI5.out.rl x g4 g5
                        replace hxc : W5.cell? ⟨bl, x.toNat, none⟩ = some (.int .i64 (rd L1 x)) := hxc
                        obtain ⟨adn2, en2, hnc⟩ := Kd.at_int (Kd.C_below HDC.out HI5.out.b) i g1 g2
                        cases en2
                        go_still_tail 10, (by kernel_rfl)
                        change wpList _ _ _ _ _ (W5.drewN 1)
                        have HI6 := Aside0.mk (HI5.out.drew 1)
                        clear hcl hcn hxc hxf hnc HI5
                        generalize W5.drewN 1 = W6 at *
                        obtain ⟨hx6, hfx6⟩ := Kd.R_celln 0 HI6.out.rl x g4 g5
                        have hcf6 : W6.cell? ⟨gf, 0, none⟩ = some (.func (.func 99) #[] #[.pointer (some ⟨gm, 0, none⟩), .pointer (some ⟨gp, 0, none⟩), .pointer (some ⟨go, 0, none⟩), .pointer (some ⟨gb, 0, none⟩), .pointer (some ⟨gl, 0, none⟩), .pointer (some ⟨gL, 0, none⟩), .pointer (some ⟨gf, 0, none⟩)]) := (blk_cell HI6.out.hf 0).trans rfl
                        have nfb : ¬ gf = bl := HI6.out.ne.2.1.2.2.2.2.2.2.1
                        have nbf : ¬ bl = gf := fun e => nfb e.symm
                        have eg := impl_FewestOpened_1.eg
                        go_wp2_with (go_at_fn 99; refine (IHa.out g (by have := HK.out; omega) (wrap64 (i + 1)) op (O1.set i.toNat x) (L1.set x.toNat (wrap64 (rd L1 x - rd D i))) B1 m1 vB1 _ O2 L2 B2 m2 (HI6.out.setL x _) HP.out).mono ?_; rintro e w7 ⟨rfl, vB2, hI7⟩; have HI7 := Aside0.mk hI7; clear hI7 HI6)
                        clear hx6 hfx6 hcf6 eg
                        all_goals
                          have hcl7 : w7.cell? ⟨gl, 0, none⟩ = some (.slice (some ⟨bl, 0, none⟩) L2.length cl) := (blk_cell HI7.out.hl 0).trans rfl
                          have hcn7 : w7.cell? ⟨gp, 0, none⟩ = some (.slice (some adn) D.length cd) := (blk_cell HI7.out.hp 0).trans rfl
                          obtain ⟨hx7, hfx7⟩ := Kd.R_celln 0 HI7.out.rl x g4 hx2
                          replace hx7 : w7.cell? ⟨bl, x.toNat, none⟩ = some (.int .i64 (rd L2 x)) := hx7
                          obtain ⟨adn3, en3, hnc7⟩ := Kd.at_int (Kd.C_below HDC.out HI7.out.b) i g1 g2
                          cases en3
                          go_still_tail 10, (by kernel_rfl)
                          change wpList _ _ _ _ _ (w7.drewN 1)
                          have HI8 := Aside0.mk (HI7.out.drew 1)
                          clear hcl7 hcn7 hx7 hfx7 hnc7 HI7
                          generalize w7.drewN 1 = W8 at *
                          obtain ⟨hx8, hfx8⟩ := Kd.R_celln 0 HI8.out.rl x g4 hx2
                          go_wp2
                          go_roundg g
                          case measure => omega
                          case rel => exact ⟨wrap64 (x + 1), O2, L2.set x.toNat (wrap64 (rd L2 x + rd D i)), B2, m2, vB2, rfl, HL, ⟨by have := HK.out; omega⟩, ⟨HI8.out.setL x _⟩⟩
                    · rw [if_neg hx2] at H; cases H
                · rw [if_neg hg] at H; cases H
              · rw [if_neg hx] at H
                have e := Option.some.inj H
                simp only [Prod.mk.injEq] at e
                obtain ⟨rfl, rfl, rfl, rfl⟩ := e
                clear H
                go_wp2
                refine bodyPost_end (results_none rfl _ _ _) rfl ⟨rfl, vB1, HI.out⟩
        · have hm1 : ¬ 0 ≤ m := hm0
          have d1 : decide (0 ≤ m) = false := decide_eq_false hm0
          clear h1
          go_enter Try.func99, Try.ntmps99
          go_wp2
          clear hcm hco
          go_loopg [29] k (fun gq v29 W2 => ∃ (x : Int) (O1 L1 B1 : List Int) (m1 : Int) (vB1 : Value), v29 = .int .i64 x ∧ Aside0 (impl_FewestOpened_1.l0 l D gq i op (L.length : Int) x O1 L1 B1 m1 = some (r1, r2, r3, r4)) ∧ Aside0 (gq ≤ k) ∧ Aside0 (impl_FewestOpened_1.Inv w W2 A0 c0 l Nd cd D AL gl gm gL go gb gp gf bo bl co cl O1 L1 B1 m1 vB1))
          case atStart => exact ⟨0, O, L, B, m, vB, rfl, HL, ⟨Nat.le_refl _⟩, HI⟩
          case round =>
            clear HL HI hcl hcn
            obtain ⟨x, O1, L1, B1, m1, vB1, rfl, HL, HK, HI⟩ := hrel
            cases gk with
            | zero => exact absurd HL.out (by simp [impl_FewestOpened_1.l0])
            | succ g =>
              have H := HL.out
              rw [impl_FewestOpened_1.l0] at H
              clear HL
              by_cases hx : x < (L.length : Int)
              · rw [if_pos hx] at H
                by_cases hg : 0 ≤ i ∧ i < (D.length : Int) ∧ i < (O1.length : Int) ∧ 0 ≤ x ∧ x < (L1.length : Int) ∧ x < (l.length : Int)
                · rw [if_pos hg] at H
                  obtain ⟨g1, g2, g3, g4, g5, g6⟩ := hg
                  rcases HI.out.hA with hAL | ⟨_, hLn⟩
                  rotate_left
                  · rw [hLn] at g5; simp at g5; omega
                  subst hAL
                  have hcl : wr.cell? ⟨gl, 0, none⟩ = some (.slice (some ⟨bl, 0, none⟩) L1.length cl) := (blk_cell HI.out.hl 0).trans rfl
                  have hcn : wr.cell? ⟨gp, 0, none⟩ = some (.slice Nd D.length cd) := (blk_cell HI.out.hp 0).trans rfl
                  obtain ⟨hxc, hxf⟩ := Kd.R_celln 0 HI.out.rl x g4 g5
                  replace hxc : wr.cell? ⟨bl, x.toNat, none⟩ = some (.int .i64 (rd L1 x)) := hxc
                  obtain ⟨adn, en, hnc⟩ := Kd.at_int (Kd.C_below HDC.out HI.out.b) i g1 g2
                  cases en
                  by_cases hlt : rd L1 x < rd D i
                  · rw [if_pos hlt] at H
                    have HL := Aside0.mk H
                    have q1 : decide (rd L1 x < rd D i) = true := decide_eq_true hlt
                    clear H hlt
                    go_wp2
                    refine wp_region_still_lit (by kernel_rfl) (by kernel_rfl) ?_
                    repeat still_step
                    refine wpStill_nil ?_
                    change Exit.then _ _ _ _ (wr.drewN 1)
                    have HI2 := Aside0.mk (HI.out.drew 1)
                    clear hcl hcn hxc hxf hnc HI
                    generalize wr.drewN 1 = W3 at *
                    go_wp2
                    go_roundg g
                    case measure => omega
                    case rel => exact ⟨wrap64 (x + 1), O1, L1, B1, m1, vB1, rfl, HL, ⟨by have := HK.out; omega⟩, HI2⟩
                  · rw [if_neg hlt] at H
                    obtain ⟨⟨O2, L2, B2, m2⟩, hput, H⟩ := Option.bind_eq_some_iff.mp H
                    simp only at H
                    by_cases hx2 : x < (L2.length : Int)
                    · rw [if_pos hx2] at H
                      have HL := Aside0.mk H
                      have q1 : decide (rd L1 x < rd D i) = false := decide_eq_false hlt
                      clear H hlt
                      go_wp2
                      refine wp_region_still_lit (by kernel_rfl) (by kernel_rfl) ?_
                      repeat still_step
                      refine wpStill_nil ?_
                      change Exit.then _ _ _ _ (wr.drewN 1)
                      have HI2 := Aside0.mk (HI.out.drew 1)
                      clear hcl hcn hxc hxf hnc HI q1
                      generalize wr.drewN 1 = W3 at *
                      have hcl : W3.cell? ⟨gl, 0, none⟩ = some (.slice (some ⟨bl, 0, none⟩) L1.length cl) := (blk_cell HI2.out.hl 0).trans rfl
                      have hcL : W3.cell? ⟨gL, 0, none⟩ = some (.slice A0 l.length c0) := (blk_cell HI2.out.hL 0).trans rfl
                      obtain ⟨hxc, hxf⟩ := Kd.R_celln 0 HI2.out.rl x g4 g5
                      replace hxc : W3.cell? ⟨bl, x.toNat, none⟩ = some (.int .i64 (rd L1 x)) := hxc
                      obtain ⟨ady, ey, hy0, hy1, hy2⟩ := at_T88 (Kd.C_below HCC.out HI2.out.b) x g4 g6
                      cases ey
                      by_cases hop : rd L1 x = wrap64 (rd_T88 l x).f0
                      · rw [if_pos hop] at hput
                        have q2 : (rd L1 x == IntKind.i64.wrap (rd_T88 l x).f0) = true := by rw [show IntKind.i64.wrap (rd_T88 l x).f0 = wrap64 (rd_T88 l x).f0 from by unfold wrap64; exact IntKind.wrap_i64 _]; exact beq_iff_eq.mpr hop
                        have HP := Aside0.mk hput
                        clear hput hop
                        go_wp2
                        refine wp_region_still_lit (by kernel_rfl) (by kernel_rfl) ?_
                        repeat still_step
                        refine wpStill_nil ?_
                        change Exit.then _ _ _ _ (W3.drewN 1)
                        have HI4 := Aside0.mk (HI2.out.drew 1)
                        clear hcl hcL hxc hxf hy0 hy1 hy2 HI2
                        generalize W3.drewN 1 = W4 at *
                        have hco : W4.cell? ⟨go, 0, none⟩ = some (.slice (some ⟨bo, 0, none⟩) O1.length co) := (blk_cell HI4.out.ho 0).trans rfl
                        obtain ⟨hce, hfe⟩ := Kd.R_celln 0 HI4.out.ro i g1 g3
                        go_wp2
                        have HI5 := Aside0.mk (HI4.out.setO i x)
                        clear hco hce hfe HI4 q2
                        generalize W4.setCell ⟨bo, i.toNat, none⟩ (.int .i64 x) = W5 at *
                        have hcl : W5.cell? ⟨gl, 0, none⟩ = some (.slice (some ⟨bl, 0, none⟩) L1.length cl) := (blk_cell HI5.out.hl 0).trans rfl
                        have hcn : W5.cell? ⟨gp, 0, none⟩ = some (.slice (some adn) D.length cd) := (blk_cell HI5.out.hp 0).trans rfl
                        obtain ⟨hxc, hxf⟩ := Kd.R_celln 0 HI5.out.rl x g4 g5
                        replace hxc : W5.cell? ⟨bl, x.toNat, none⟩ = some (.int .i64 (rd L1 x)) := hxc
                        obtain ⟨adn2, en2, hnc⟩ := Kd.at_int (Kd.C_below HDC.out HI5.out.b) i g1 g2
                        cases en2
                        go_still_tail 10, (by kernel_rfl)
                        change wpList _ _ _ _ _ (W5.drewN 1)
                        have HI6 := Aside0.mk (HI5.out.drew 1)
                        clear hcl hcn hxc hxf hnc HI5
                        generalize W5.drewN 1 = W6 at *
                        obtain ⟨hx6, hfx6⟩ := Kd.R_celln 0 HI6.out.rl x g4 g5
                        have hcf6 : W6.cell? ⟨gf, 0, none⟩ = some (.func (.func 99) #[] #[.pointer (some ⟨gm, 0, none⟩), .pointer (some ⟨gp, 0, none⟩), .pointer (some ⟨go, 0, none⟩), .pointer (some ⟨gb, 0, none⟩), .pointer (some ⟨gl, 0, none⟩), .pointer (some ⟨gL, 0, none⟩), .pointer (some ⟨gf, 0, none⟩)]) := (blk_cell HI6.out.hf 0).trans rfl
                        have nfb : ¬ gf = bl := HI6.out.ne.2.1.2.2.2.2.2.2.1
                        have nbf : ¬ bl = gf := fun e => nfb e.symm
                        have eg := impl_FewestOpened_1.eg
                        go_wp2_with (go_at_fn 99; refine (IHa.out g (by have := HK.out; omega) (wrap64 (i + 1)) (wrap64 (op + 1)) (O1.set i.toNat x) (L1.set x.toNat (wrap64 (rd L1 x - rd D i))) B1 m1 vB1 _ O2 L2 B2 m2 (HI6.out.setL x _) HP.out).mono ?_; rintro e w7 ⟨rfl, vB2, hI7⟩; have HI7 := Aside0.mk hI7; clear hI7 HI6)
                        clear hx6 hfx6 hcf6 eg
                        all_goals
                          have hcl7 : w7.cell? ⟨gl, 0, none⟩ = some (.slice (some ⟨bl, 0, none⟩) L2.length cl) := (blk_cell HI7.out.hl 0).trans rfl
                          have hcn7 : w7.cell? ⟨gp, 0, none⟩ = some (.slice (some adn) D.length cd) := (blk_cell HI7.out.hp 0).trans rfl
                          obtain ⟨hx7, hfx7⟩ := Kd.R_celln 0 HI7.out.rl x g4 hx2
                          replace hx7 : w7.cell? ⟨bl, x.toNat, none⟩ = some (.int .i64 (rd L2 x)) := hx7
                          obtain ⟨adn3, en3, hnc7⟩ := Kd.at_int (Kd.C_below HDC.out HI7.out.b) i g1 g2
                          cases en3
                          go_still_tail 10, (by kernel_rfl)
                          change wpList _ _ _ _ _ (w7.drewN 1)
                          have HI8 := Aside0.mk (HI7.out.drew 1)
                          clear hcl7 hcn7 hx7 hfx7 hnc7 HI7
                          generalize w7.drewN 1 = W8 at *
                          obtain ⟨hx8, hfx8⟩ := Kd.R_celln 0 HI8.out.rl x g4 hx2
                          go_wp2
                          go_roundg g
                          case measure => omega
                          case rel => exact ⟨wrap64 (x + 1), O2, L2.set x.toNat (wrap64 (rd L2 x + rd D i)), B2, m2, vB2, rfl, HL, ⟨by have := HK.out; omega⟩, ⟨HI8.out.setL x _⟩⟩
                      · rw [if_neg hop] at hput
                        have q2 : (rd L1 x == IntKind.i64.wrap (rd_T88 l x).f0) = false := by rw [show IntKind.i64.wrap (rd_T88 l x).f0 = wrap64 (rd_T88 l x).f0 from by unfold wrap64; exact IntKind.wrap_i64 _]; exact beq_eq_false_iff_ne.mpr hop
                        have HP := Aside0.mk hput
                        clear hput hop
                        go_wp2
                        refine wp_region_still_lit (by kernel_rfl) (by kernel_rfl) ?_
                        repeat still_step
                        refine wpStill_nil ?_
                        change Exit.then _ _ _ _ (W3.drewN 1)
                        have HI4 := Aside0.mk (HI2.out.drew 1)
                        clear hcl hcL hxc hxf hy0 hy1 hy2 HI2
                        generalize W3.drewN 1 = W4 at *
                        have hco : W4.cell? ⟨go, 0, none⟩ = some (.slice (some ⟨bo, 0, none⟩) O1.length co) := (blk_cell HI4.out.ho 0).trans rfl
                        obtain ⟨hce, hfe⟩ := Kd.R_celln 0 HI4.out.ro i g1 g3
                        go_wp2
                        have HI5 := Aside0.mk (HI4.out.setO i x)
                        clear hco hce hfe HI4 q2
                        generalize W4.setCell ⟨bo, i.toNat, none⟩ (.int .i64 x) = W5 at *
                        have hcl : W5.cell? ⟨gl, 0, none⟩ = some (.slice (some ⟨bl, 0, none⟩) L1.length cl) := (blk_cell HI5.out.hl 0).trans rfl
                        have hcn : W5.cell? ⟨gp, 0, none⟩ = some (.slice (some adn) D.length cd) := (blk_cell HI5.out.hp 0).trans rfl
                        obtain ⟨hxc, hxf⟩ := Kd.R_celln 0 HI5.out.rl x g4 g5
                        replace hxc : W5.cell? ⟨bl, x.toNat, none⟩ = some (.int .i64 (rd L1 x)) := hxc
                        obtain ⟨adn2, en2, hnc⟩ := Kd.at_int (Kd.C_below HDC.out HI5.out.b) i g1 g2
                        cases en2
                        go_still_tail 10, (by kernel_rfl)
                        change wpList _ _ _ _ _ (W5.drewN 1)
                        have HI6 := Aside0.mk (HI5.out.drew 1)
                        clear hcl hcn hxc hxf hnc HI5
                        generalize W5.drewN 1 = W6 at *
                        obtain ⟨hx6, hfx6⟩ := Kd.R_celln 0 HI6.out.rl x g4 g5
                        have hcf6 : W6.cell? ⟨gf, 0, none⟩ = some (.func (.func 99) #[] #[.pointer (some ⟨gm, 0, none⟩), .pointer (some ⟨gp, 0, none⟩), .pointer (some ⟨go, 0, none⟩), .pointer (some ⟨gb, 0, none⟩), .pointer (some ⟨gl, 0, none⟩), .pointer (some ⟨gL, 0, none⟩), .pointer (some ⟨gf, 0, none⟩)]) := (blk_cell HI6.out.hf 0).trans rfl
                        have nfb : ¬ gf = bl := HI6.out.ne.2.1.2.2.2.2.2.2.1
                        have nbf : ¬ bl = gf := fun e => nfb e.symm
                        have eg := impl_FewestOpened_1.eg
                        go_wp2_with (go_at_fn 99; refine (IHa.out g (by have := HK.out; omega) (wrap64 (i + 1)) op (O1.set i.toNat x) (L1.set x.toNat (wrap64 (rd L1 x - rd D i))) B1 m1 vB1 _ O2 L2 B2 m2 (HI6.out.setL x _) HP.out).mono ?_; rintro e w7 ⟨rfl, vB2, hI7⟩; have HI7 := Aside0.mk hI7; clear hI7 HI6)
                        clear hx6 hfx6 hcf6 eg
                        all_goals
                          have hcl7 : w7.cell? ⟨gl, 0, none⟩ = some (.slice (some ⟨bl, 0, none⟩) L2.length cl) := (blk_cell HI7.out.hl 0).trans rfl
                          have hcn7 : w7.cell? ⟨gp, 0, none⟩ = some (.slice (some adn) D.length cd) := (blk_cell HI7.out.hp 0).trans rfl
                          obtain ⟨hx7, hfx7⟩ := Kd.R_celln 0 HI7.out.rl x g4 hx2
                          replace hx7 : w7.cell? ⟨bl, x.toNat, none⟩ = some (.int .i64 (rd L2 x)) := hx7
                          obtain ⟨adn3, en3, hnc7⟩ := Kd.at_int (Kd.C_below HDC.out HI7.out.b) i g1 g2
                          cases en3
                          go_still_tail 10, (by kernel_rfl)
                          change wpList _ _ _ _ _ (w7.drewN 1)
                          have HI8 := Aside0.mk (HI7.out.drew 1)
                          clear hcl7 hcn7 hx7 hfx7 hnc7 HI7
                          generalize w7.drewN 1 = W8 at *
                          obtain ⟨hx8, hfx8⟩ := Kd.R_celln 0 HI8.out.rl x g4 hx2
                          go_wp2
                          go_roundg g
                          case measure => omega
                          case rel => exact ⟨wrap64 (x + 1), O2, L2.set x.toNat (wrap64 (rd L2 x + rd D i)), B2, m2, vB2, rfl, HL, ⟨by have := HK.out; omega⟩, ⟨HI8.out.setL x _⟩⟩
                    · rw [if_neg hx2] at H; cases H
                · rw [if_neg hg] at H; cases H
              · rw [if_neg hx] at H
                have e := Option.some.inj H
                simp only [Prod.mk.injEq] at e
                obtain ⟨rfl, rfl, rfl, rfl⟩ := e
                clear H
                go_wp2
                refine bodyPost_end (results_none rfl _ _ _) rfl ⟨rfl, vB1, HI.out⟩

/-! ### impl_FewestOpened: function 32 -/
def impl_FewestOpened.f (k : Nat) (l0 : List S88) (l1 : List Int) : Option (List Int × Int × Int) :=
  (impl_cutsCode.f l0 l1).bind fun c =>
    if c = 0 then (if l1.length ≤ 1048576 then (impl_longs.f k l0).bind fun L => (impl_FewestOpened_1.f l0 l1 k 0 0 (List.replicate l1.length 0) L [] (-1)).bind fun r => if r.2.2.2 < 0 then some ([], 0, 6) else some (r.2.2.1, r.2.2.2, 0)
      else none)
    else some ([], 0, c)
theorem impl_FewestOpened.mono : ∀ a0 a1 k, LeO (impl_FewestOpened.f k a0 a1) (impl_FewestOpened.f (k + 1) a0 a1) := by
  intro a0 a1 k
  unfold impl_FewestOpened.f
  repeat' first
    | exact impl_longs.mono _ _
    | exact (impl_FewestOpened_1.mono_l _ _ _).1 _ _ _ _ _ _
    | (with_reducible exact LeO.refl _)
    | (with_reducible refine LeO.ite ?_ ?_)
    | (with_reducible refine LeO.bind ?_ (fun _ => ?_))
theorem impl_FewestOpened.keepA {w : World} {o : Obj} {a : Addr} {v : Value} (h : w.cell? a = some v) : (w.alloc o).cell? a = some v :=
  (((Below.refl w.heap.size w).alloc (Nat.le_refl _) o).cell (World.block_lt_of_cell? w a h)).trans h
theorem impl_FewestOpened.keepD {w : World} {a : Addr} {v : Value} (h : w.cell? a = some v) : w.drew.cell? a = some v := h
theorem impl_FewestOpened.keepS {w : World} {a p : Addr} {u v : Value} (hne : p.block ≠ a.block) (h : w.cell? a = some v) : (w.setCell p u).cell? a = some v :=
  (World.cell?_setCell_far _ _ _ _ hne).trans h
theorem impl_FewestOpened.top {w : World} {o : Obj} {g : Nat} (h : g = w.heap.size) : (w.alloc o).heap[g]? = some o := by
  subst h; exact blk_new w o
theorem impl_FewestOpened.mk (w : World) (n : Int) (h0 : 0 ≤ n) (h1 : n ≤ 1048576) : (Instr.makeSlice 25 (.int .i64 n) (.int .i64 n)).run Try.prog w = .ok (.slice (some ⟨w.heap.size, 0, none⟩) n.toNat n.toNat) (w.alloc (.cells (madeCells #[.int .i64 0] n.toNat) 2 (0, 0))) := by
  obtain ⟨i0, hi, hz, hs, hb⟩ := info_parts (show (Try.prog.info? 2).map (fun i => (i.zero, i.size, i.bytes)) = some (some (.int .i64 0), 1, 8) by kernel_rfl)
  have z := run_make (P := Try.prog) w 25 2 i0 (.int .i64 0) Try.underlying25 hi hz .i64 .i64 n n h0 (Int.le_refl _) (by rw [hb]; omega) (by omega)
  rw [hs, Nat.mul_one] at z
  exact z
theorem impl_FewestOpened.zeros {W : World} {base g n : Nat} (h : W.heap[g]? = some (.cells (madeCells #[.int .i64 0] n) 2 (0, 0))) (hb : base ≤ g) (hn : n ≤ 1048576) : Kd.R (Kd.int .i64) 2 W base (fun _ => True) (.slice (some ⟨g, 0, none⟩) n n) (List.replicate n 0) := by
  rw [← Nat.mul_one n] at h
  refine ⟨fun _ _ => trivial, (madeCells #[.int .i64 0] (n * 1)).toList, ⟨?_, .inr ⟨g, n, madeCells #[.int .i64 0] (n * 1), ?_, hb, h, ?_, ?_, ?_, ?_⟩⟩, Kd.reps_made (z := .int .i64 0) (z0 := (0 : Int)) rfl (by decide) rfl n⟩
  · simp [size_madeCells, Kd.int, Kd.scalar]
  · simp
  · simp
  · simp [maxLen]; omega
  · simp [size_madeCells, Kd.int, Kd.scalar]
  · exact List.take_of_length_le (by simp [size_madeCells, Kd.int, Kd.scalar])
theorem impl_FewestOpened.fact {w1 w2 : World} {G : Prop} {o : Obj} (n : Nat) (hb : Below w1.heap.size w1 w2) (h : w1.heap[n]? = some o) (k : n < w1.heap.size → w2.heap[n]? = some o → G) : G := k (blk_lt h) (blk_below h hb)
theorem impl_FewestOpened.keepB {w w1 : World} {a : Addr} {v : Value} (hb : Below w.heap.size w w1) (h : w.cell? a = some v) : w1.cell? a = some v := (hb.cell (World.block_lt_of_cell? w a h)).trans h
set_option maxHeartbeats 8000000 in
set_option maxRecDepth 100000 in
theorem impl_FewestOpened.calls (k : Nat) (A0 : Option Addr) (c0 : Nat) (l0 : List S88) (A1 : Option Addr) (c1 : Nat) (l1 : List Int) (r1 : List Int) (r2 r3 : Int) (w : World) (hr0 : Kd.C k88 w A0 l0.length l0) (hc0 : l0.length ≤ c0) (hr1 : Kd.C (Kd.int .i64) w A1 l1.length l1) (hc1 : l1.length ≤ c1) (h : impl_FewestOpened.f k l0 l1 = some (r1, r2, r3)) :
    Calls Try.prog 32 #[.slice A0 l0.length c0, .slice A1 l1.length c1] w fun e w' => ∃ v0_ : Value, e = .returned (.tuple #[v0_, .int .i64 r2, .int .i64 r3]) ∧ Kd.R (Kd.int .i64) 2 w' w.heap.size (fun _ => True) v0_ r1 ∧ Below w.heap.size w w' := by
  unfold impl_FewestOpened.f at h
  obtain ⟨c, hc, h⟩ := Option.bind_eq_some_iff.mp h
  have HC := Aside0.mk hc
  have HR := Aside0.mk hr0
  have HC0 := Aside0.mk hc0
  have HD := Aside0.mk hr1
  have HC1 := Aside0.mk hc1
  clear hc hr0 hc0 hr1 hc1
  by_cases hz : c = 0
  · rw [if_pos hz] at h
    subst hz
    have HH := Aside0.mk h
    clear h
    have hz1 : ((0 : Int) != 0) = false := rfl
    go_enter Try.func32, Try.ntmps32
    go_upto_region 6 with (first | ((with_reducible refine gate_dst (N := 2) rfl ?_); refine box_event ?hg (N := 2) ?hd (cs := #[.slice A0 l0.length c0]) (t := 37) ?hr ?_; (case hd => rfl); (case hg => rfl); (case hr => first | (go_simp; done) | (go_simp; rfl)); intro gL hgL w1 hL1 hb1; have BL := Aside0.mk hL1; have B1 := Aside0.mk hb1; have GL := Aside0.mk hgL; clear hL1 hb1 hgL) | ((with_reducible refine gate_dst (N := 3) rfl ?_); refine box_event ?hg (N := 3) ?hd (cs := #[.slice A1 l1.length c1]) (t := 25) ?hr ?_; (case hd => rfl); (case hg => rfl); (case hr => first | (go_simp; done) | (go_simp; rfl)); intro gp hgp w2 hp2 hb2; have BP := Aside0.mk hp2; have n0_ := Aside0.mk (blk_below BL.out hb2); have B2 := Aside0.mk (below_then B1.out B1.out.size hb2); have LP := Aside0.mk (show gL < gp by rw [hgp]; exact blk_lt BL.out); clear BL B1 hp2 hb2 hgp; have BL := n0_; clear n0_; have hcL : w2.cell? ⟨gL, 0, none⟩ = some (.slice A0 l0.length c0) := (blk_cell BL.out 0).trans rfl; have hcp : w2.cell? ⟨gp, 0, none⟩ = some (.slice A1 l1.length c1) := (blk_cell BP.out 0).trans rfl) | (go_at_call 97; refine (impl_cutsCode.calls A0 c0 l0 A1 c1 l1 0 _ (Kd.C_below HR.out B2.out) HC0.out (Kd.C_below HD.out B2.out) HC1.out HC.out).mono ?_; rintro e w4 ⟨rfl, hb4⟩; have BL4 := Aside0.mk (blk_below BL.out hb4); have BP4 := Aside0.mk (blk_below BP.out hb4); have B4 := Aside0.mk (below_then B2.out B2.out.size hb4); clear hb4 BL BP B2 hcL hcp) | ((with_reducible refine gate_dst (N := 8) rfl ?_); refine box_event ?hg (N := 8) ?hd (cs := #[.slice none 0 0]) (t := 25) ?hr ?_; (case hd => rfl); (case hg => rfl); (case hr => first | (go_simp; done) | (go_simp; rfl)); intro gb hgb w6 hb6 hbb; have BB6 := Aside0.mk hb6; have BL6 := Aside0.mk (blk_below BL4.out hbb); have BP6 := Aside0.mk (blk_below BP4.out hbb); have B6 := Aside0.mk (below_then B4.out B4.out.size hbb); have LB := Aside0.mk (show gp < gb by rw [hgb]; exact blk_lt BP4.out); clear BL4 BP4 B4 hb6 hbb hgb) | ((with_reducible refine gate_dst (N := 9) rfl ?_); refine box_event ?hg (N := 9) ?hd (cs := #[.int .i64 0]) (t := 2) ?hr ?_; (case hd => rfl); (case hg => rfl); (case hr => first | (go_simp; done) | (go_simp; rfl)); intro gm hgm w7 hm7 hbb; have BM7 := Aside0.mk hm7; have BB7 := Aside0.mk (blk_below BB6.out hbb); have BL7 := Aside0.mk (blk_below BL6.out hbb); have BP7 := Aside0.mk (blk_below BP6.out hbb); have B7 := Aside0.mk (below_then B6.out B6.out.size hbb); have LM := Aside0.mk (show gb < gm by rw [hgm]; exact blk_lt BB6.out); clear BL6 BP6 BB6 B6 hm7 hbb hgm; have hcm : w7.cell? ⟨gm, 0, none⟩ = some (.int .i64 0) := (blk_cell BM7.out 0).trans rfl; have hfm := blk_frozen BM7.out 0))
    have LG := Aside0.mk (show w.heap.size ≤ gL by rw [GL.out]; exact Nat.le_refl _)
    have BM8 := Aside0.mk (blk_put (cs := #[.int .i64 0]) BM7.out 0 (.int .i64 (-1)) rfl)
    have BB8 := Aside0.mk (blk_far BB7.out (p := ⟨gm, 0, none⟩) (by have := LM.out; show gb ≠ gm; omega) (.int .i64 (-1)))
    have BL8 := Aside0.mk (blk_far BL7.out (p := ⟨gm, 0, none⟩) (by have := LM.out; have := LB.out; have := LP.out; show gL ≠ gm; omega) (.int .i64 (-1)))
    have BP8 := Aside0.mk (blk_far BP7.out (p := ⟨gm, 0, none⟩) (by have := LM.out; have := LB.out; show gp ≠ gm; omega) (.int .i64 (-1)))
    have B8 := Aside0.mk (below_set (g := gm) (j := 0) (v := .int .i64 (-1)) B7.out (by have := LM.out; have := LB.out; have := LP.out; have := LG.out; omega))
    clear BM7 BB7 BL7 BP7 B7 hcm hfm
    generalize w7.setCell ⟨gm, 0, none⟩ (.int .i64 (-1)) = w8 at *
    have hcL : w8.cell? ⟨gL, 0, none⟩ = some (.slice A0 l0.length c0) := (blk_cell BL8.out 0).trans rfl
    have hcp : w8.cell? ⟨gp, 0, none⟩ = some (.slice A1 l1.length c1) := (blk_cell BP8.out 0).trans rfl
    have H := HH.out
    by_cases q2 : l1.length ≤ 1048576
    · rw [if_pos q2] at H
      have HQ2 := Aside0.mk q2
      obtain ⟨L, hL, H⟩ := Option.bind_eq_some_iff.mp H
      have HLL := Aside0.mk hL
      have HK := Aside0.mk H
      clear H HH hL
      go_cut [10, 11] (fun v10 v11 wc => ∃ (go gl bo : Nat) (AL : Option Addr) (cl : Nat), v10 = .pointer (some ⟨gl, 0, none⟩) ∧ v11 = .pointer (some ⟨go, 0, none⟩) ∧ Aside0 (Below w8.heap.size w8 wc) ∧ Aside0 (w8.heap.size ≤ go ∧ w8.heap.size ≤ gl ∧ w8.heap.size ≤ bo) ∧ Aside0 (go ≠ gl ∧ go ≠ bo ∧ gl ≠ bo) ∧ Aside0 (∀ q, some q = (Value.slice AL L.length cl).ownBlock → q ≠ go ∧ q ≠ gl ∧ q ≠ bo) ∧ Aside0 (wc.heap[go]? = some (.cells #[.slice (some ⟨bo, 0, none⟩) l1.length l1.length] 25 (0, 0))) ∧ Aside0 (wc.heap[gl]? = some (.cells #[.slice AL L.length cl] 25 (0, 0))) ∧ Aside0 (wc.heap[bo]? = some (.cells (madeCells #[.int .i64 0] l1.length) 2 (0, 0))) ∧ Aside0 (Kd.R (Kd.int .i64) 2 wc w8.heap.size (fun _ => True) (.slice AL L.length cl) L))
      case first =>
        as_aux_lemma =>
        have q3 : l1.length * 8 ≤ 281474976710656 := by omega
        have mk1 : ∀ w : World, (Instr.makeSlice 25 (.int .i64 (l1.length : Int)) (.int .i64 (l1.length : Int))).run Try.prog w = .ok (.slice (some ⟨w.heap.size, 0, none⟩) l1.length l1.length) (w.alloc (.cells (madeCells #[.int .i64 0] l1.length) 2 (0, 0))) := fun w => by
            have z := impl_FewestOpened.mk w (l1.length : Int) (by omega) (by omega)
            rw [Int.toNat_natCast] at z; exact z
        have lL := blk_lt BL8.out
        have lP := blk_lt BP8.out
        go_region_held3 (fun w' => w'.cell? ⟨gL, 0, none⟩ = some (.slice A0 l0.length c0) ∧ w'.cell? ⟨gp, 0, none⟩ = some (.slice A1 l1.length c1)) (constructor <;> (repeat (first | (with_reducible exact hcL) | (with_reducible exact hcp) | (with_reducible refine impl_FewestOpened.keepD ?_) | (with_reducible refine impl_FewestOpened.keepA ?_) | (with_reducible refine impl_FewestOpened.keepB HB0.out ?_) | (with_reducible refine impl_FewestOpened.keepS ?_ ?_; focus (first | (simp; done) | (simp; omega) | omega))))) ((go_at_call 98; refine (impl_longs.calls k A0 c0 l0 L _ (Kd.C_below (Kd.C_below HR.out B8.out) (by (repeat (first | exact Below.refl _ _ | (with_reducible refine below_drew1 ?_) | (with_reducible refine below_alloc ?_ _) | (with_reducible refine pw_below_drewN ?_ _))))) HC0.out HLL.out).mono ?_; rintro e w20 ⟨v20, rfl, ho20, hb20⟩; obtain ⟨AL, cl, e20⟩ := Kd.R_slice ho20; subst e20; have HB0 := Aside0.mk hb20; have HB20 : Aside0 (Below w8.heap.size w8 w20) := ⟨below_then (by (repeat (first | exact Below.refl _ _ | (with_reducible refine below_drew1 ?_) | (with_reducible refine below_alloc ?_ _) | (with_reducible refine pw_below_drewN ?_ _)))) ((show Below w8.heap.size w8 _ from by (repeat (first | exact Below.refl _ _ | (with_reducible refine below_drew1 ?_) | (with_reducible refine below_alloc ?_ _) | (with_reducible refine pw_below_drewN ?_ _)))).size) hb20⟩; have sz20 : w8.heap.size ≤ w20.heap.size := HB20.out.size; have HQ := Aside0.mk (fun (q : Nat) (e : (Value.slice AL L.length cl).ownBlock = some q) => (⟨Kd.R_base ho20 q e, Kd.R_lt ho20 q e⟩ : _ ∧ _)); have HO := Aside0.mk (Kd.R_lower ho20 ((show Below w8.heap.size w8 _ from by (repeat (first | exact Below.refl _ _ | (with_reducible refine below_drew1 ?_) | (with_reducible refine below_alloc ?_ _) | (with_reducible refine pw_below_drewN ?_ _)))).size)); clear ho20 hb20; (try ((refine impl_FewestOpened.fact (o := .cells #[.slice none 0 0] 25 (0, 0)) (w8.heap.size) HB0.out ?hx ?_); (case hx => ((repeat (first | ((with_reducible refine impl_FewestOpened.top ?_); focus (simp; done)) | (with_reducible refine blk_drew ?_) | (with_reducible refine blk_alloc ?_ _) | ((with_reducible refine blk_far ?_ ?_ _); rotate_left; focus (first | (simp; done) | (simp; omega))))); done)); intro hlt0 hbk; have hbk0 := Aside0.mk hbk; have hlu0 := blk_lt hbk; have hck0 : w20.cell? ⟨w8.heap.size, 0, none⟩ = some (.slice none 0 0) := (blk_cell hbk 0).trans rfl; have hfk0 := blk_frozen hbk 0; clear hbk; have nk00 : ¬ w8.heap.size = w20.heap.size := (by omega); have nl00 : ¬ w20.heap.size = w8.heap.size := (by omega); have nk01 : ¬ w8.heap.size = w20.heap.size + 1 := (by omega); have nl01 : ¬ w20.heap.size + 1 = w8.heap.size := (by omega); have nk02 : ¬ w8.heap.size = w20.heap.size + 1 + 1 := (by omega); have nl02 : ¬ w20.heap.size + 1 + 1 = w8.heap.size := (by omega))); (try ((refine impl_FewestOpened.fact (o := .cells (madeCells #[.int .i64 0] l1.length) 2 (0, 0)) (w8.heap.size) HB0.out ?hx ?_); (case hx => ((repeat (first | ((with_reducible refine impl_FewestOpened.top ?_); focus (simp; done)) | (with_reducible refine blk_drew ?_) | (with_reducible refine blk_alloc ?_ _) | ((with_reducible refine blk_far ?_ ?_ _); rotate_left; focus (first | (simp; done) | (simp; omega))))); done)); intro hlt0m hbk; have hbm0 := Aside0.mk hbk; have hlm0 := blk_lt hbk; clear hbk)); (try ((refine impl_FewestOpened.fact (o := .cells #[.slice none 0 0] 25 (0, 0)) (w8.heap.size + 1) HB0.out ?hx ?_); (case hx => ((repeat (first | ((with_reducible refine impl_FewestOpened.top ?_); focus (simp; done)) | (with_reducible refine blk_drew ?_) | (with_reducible refine blk_alloc ?_ _) | ((with_reducible refine blk_far ?_ ?_ _); rotate_left; focus (first | (simp; done) | (simp; omega))))); done)); intro hlt1 hbk; have hbk1 := Aside0.mk hbk; have hlu1 := blk_lt hbk; have hck1 : w20.cell? ⟨w8.heap.size + 1, 0, none⟩ = some (.slice none 0 0) := (blk_cell hbk 0).trans rfl; have hfk1 := blk_frozen hbk 0; clear hbk; have nk10 : ¬ w8.heap.size + 1 = w20.heap.size := (by omega); have nl10 : ¬ w20.heap.size = w8.heap.size + 1 := (by omega); have nk11 : ¬ w8.heap.size + 1 = w20.heap.size + 1 := (by omega); have nl11 : ¬ w20.heap.size + 1 = w8.heap.size + 1 := (by omega); have nk12 : ¬ w8.heap.size + 1 = w20.heap.size + 1 + 1 := (by omega); have nl12 : ¬ w20.heap.size + 1 + 1 = w8.heap.size + 1 := (by omega))); (try ((refine impl_FewestOpened.fact (o := .cells (madeCells #[.int .i64 0] l1.length) 2 (0, 0)) (w8.heap.size + 1) HB0.out ?hx ?_); (case hx => ((repeat (first | ((with_reducible refine impl_FewestOpened.top ?_); focus (simp; done)) | (with_reducible refine blk_drew ?_) | (with_reducible refine blk_alloc ?_ _) | ((with_reducible refine blk_far ?_ ?_ _); rotate_left; focus (first | (simp; done) | (simp; omega))))); done)); intro hlt1m hbk; have hbm1 := Aside0.mk hbk; have hlm1 := blk_lt hbk; clear hbk)); (try ((refine impl_FewestOpened.fact (o := .cells #[.slice none 0 0] 25 (0, 0)) (w8.heap.size + 1 + 1) HB0.out ?hx ?_); (case hx => ((repeat (first | ((with_reducible refine impl_FewestOpened.top ?_); focus (simp; done)) | (with_reducible refine blk_drew ?_) | (with_reducible refine blk_alloc ?_ _) | ((with_reducible refine blk_far ?_ ?_ _); rotate_left; focus (first | (simp; done) | (simp; omega))))); done)); intro hlt2 hbk; have hbk2 := Aside0.mk hbk; have hlu2 := blk_lt hbk; have hck2 : w20.cell? ⟨w8.heap.size + 1 + 1, 0, none⟩ = some (.slice none 0 0) := (blk_cell hbk 0).trans rfl; have hfk2 := blk_frozen hbk 0; clear hbk; have nk20 : ¬ w8.heap.size + 1 + 1 = w20.heap.size := (by omega); have nl20 : ¬ w20.heap.size = w8.heap.size + 1 + 1 := (by omega); have nk21 : ¬ w8.heap.size + 1 + 1 = w20.heap.size + 1 := (by omega); have nl21 : ¬ w20.heap.size + 1 = w8.heap.size + 1 + 1 := (by omega); have nk22 : ¬ w8.heap.size + 1 + 1 = w20.heap.size + 1 + 1 := (by omega); have nl22 : ¬ w20.heap.size + 1 + 1 = w8.heap.size + 1 + 1 := (by omega))); (try ((refine impl_FewestOpened.fact (o := .cells (madeCells #[.int .i64 0] l1.length) 2 (0, 0)) (w8.heap.size + 1 + 1) HB0.out ?hx ?_); (case hx => ((repeat (first | ((with_reducible refine impl_FewestOpened.top ?_); focus (simp; done)) | (with_reducible refine blk_drew ?_) | (with_reducible refine blk_alloc ?_ _) | ((with_reducible refine blk_far ?_ ?_ _); rotate_left; focus (first | (simp; done) | (simp; omega))))); done)); intro hlt2m hbk; have hbm2 := Aside0.mk hbk; have hlm2 := blk_lt hbk; clear hbk))))
        all_goals
          (try go_wp2)
          go_meet
          case rel =>
            (repeat apply Exists.intro)
            refine ⟨rfl, rfl, ⟨?hB⟩, ⟨?hG⟩, ⟨?hN⟩, ⟨?hQ⟩, ⟨?hO⟩, ⟨?hL⟩, ⟨?ho⟩, ⟨?hR⟩⟩
            case hO => (repeat (first | (with_reducible exact hbk0.out) | (with_reducible exact hbk1.out) | (with_reducible exact hbk2.out) | (with_reducible exact hbm0.out) | (with_reducible exact hbm1.out) | (with_reducible exact hbm2.out) | ((with_reducible refine impl_FewestOpened.top ?_); focus (simp; done)) | (with_reducible refine blk_drew ?_) | (with_reducible refine blk_alloc ?_ _) | ((with_reducible refine blk_far ?_ ?_ _); rotate_left; focus (first | (simp; done) | (simp; omega))) | refine blk_put (cs := #[.slice none 0 0]) ?_ 0 _ rfl))
            case hL => (repeat (first | (with_reducible exact hbk0.out) | (with_reducible exact hbk1.out) | (with_reducible exact hbk2.out) | (with_reducible exact hbm0.out) | (with_reducible exact hbm1.out) | (with_reducible exact hbm2.out) | ((with_reducible refine impl_FewestOpened.top ?_); focus (simp; done)) | (with_reducible refine blk_drew ?_) | (with_reducible refine blk_alloc ?_ _) | ((with_reducible refine blk_far ?_ ?_ _); rotate_left; focus (first | (simp; done) | (simp; omega))) | refine blk_put (cs := #[.slice none 0 0]) ?_ 0 _ rfl))
            case ho => (repeat (first | (with_reducible exact hbk0.out) | (with_reducible exact hbk1.out) | (with_reducible exact hbk2.out) | (with_reducible exact hbm0.out) | (with_reducible exact hbm1.out) | (with_reducible exact hbm2.out) | ((with_reducible refine impl_FewestOpened.top ?_); focus (simp; done)) | (with_reducible refine blk_drew ?_) | (with_reducible refine blk_alloc ?_ _) | ((with_reducible refine blk_far ?_ ?_ _); rotate_left; focus (first | (simp; done) | (simp; omega))) | refine blk_put (cs := #[.slice none 0 0]) ?_ 0 _ rfl))
            case hB => (repeat (first | (with_reducible exact HB20.out) | (with_reducible exact Below.refl _ _) | (with_reducible refine below_drew1 ?_) | (with_reducible refine below_alloc ?_ _) | ((with_reducible refine below_set ?_ ?_); rotate_left; focus omega)))
            case hG => omega
            case hN => omega
            case hQ =>
              intro q hq
              have hq2 := HQ.out q hq.symm
              simp at hq2
              omega
            case hR => (repeat (first | (with_reducible exact HO.out) | (with_reducible refine Kd.R_drew ?_) | (with_reducible refine Kd.R_alloc ?_ _) | ((with_reducible refine impl_FewestOpened_1.far ?_ ?_ _ _); rotate_left; focus (intro hq; have hq2 := HQ.out _ hq.symm; simp at hq2; omega))))
      case rest =>
        as_aux_lemma =>
        clear hcL hcp
        obtain ⟨go, gl, bo, AL, cl, rfl, rfl, HBc, HG, HN, HQ, HO, HL, Hbo, HRL⟩ := hcut
        have BM9 := Aside0.mk (blk_below BM8.out HBc.out)
        have BB9 := Aside0.mk (blk_below BB8.out HBc.out)
        have BL9 := Aside0.mk (blk_below BL8.out HBc.out)
        have BP9 := Aside0.mk (blk_below BP8.out HBc.out)
        have B9 := Aside0.mk (below_then B8.out B8.out.size HBc.out)
        have S8 := Aside0.mk B8.out.size
        have LM8 := Aside0.mk (blk_lt BM8.out)
        clear BM8 BB8 BL8 BP8 B8
        have hst : ∀ (fn : Fn) (first cap : Array Value) (w : World) (a : Addr) (m : Mode), (store a (.func fn first cap) m).run Try.prog w = stored Try.prog w a (.func fn first cap) m := fun _ _ _ w a m => run_store _ w a _ m rfl
        have hmf : ∀ (fn : Fn) (first cap : Array Value) (w : World), (Instr.makeFunc fn first cap).run Try.prog w = .ok (.func fn first cap) w := fun _ _ _ _ => rfl
        go_upto_region 9 with (first | ((with_reducible refine gate_dst (N := 12) rfl ?_); refine box_event ?hg (N := 12) ?hd (cs := #[.nilFunc]) (t := 118) ?hr ?_; (case hd => rfl); (case hg => rfl); (case hr => first | (go_simp; done) | (go_simp; rfl)); intro gf hgf w10 hf10 hbb; have BF10 := Aside0.mk hf10; have BM10 := Aside0.mk (blk_below BM9.out hbb); have BB10 := Aside0.mk (blk_below BB9.out hbb); have BL10 := Aside0.mk (blk_below BL9.out hbb); have BP10 := Aside0.mk (blk_below BP9.out hbb); have HO10 := Aside0.mk (blk_below HO.out hbb); have HL10 := Aside0.mk (blk_below HL.out hbb); have Hbo10 := Aside0.mk (blk_below Hbo.out hbb); have HRL10 := Aside0.mk (Kd.R_below HRL.out hbb); have LQ := Aside0.mk (fun (q : Nat) (e : some q = (Value.slice AL L.length cl).ownBlock) => (⟨Kd.R_base HRL.out q e.symm, show q < gf by rw [hgf]; exact Kd.R_lt HRL.out q e.symm⟩ : _ ∧ _)); have LF := Aside0.mk (show go < gf ∧ gl < gf ∧ bo < gf from by rw [hgf]; exact ⟨blk_lt HO.out, blk_lt HL.out, blk_lt Hbo.out⟩); have B10 := Aside0.mk (below_then B9.out B9.out.size hbb); clear BM9 BB9 BL9 BP9 B9 HO HL Hbo HRL hf10 hbb hgf; have hcf : w10.cell? ⟨gf, 0, none⟩ = some .nilFunc := (blk_cell BF10.out 0).trans rfl; have hff := blk_frozen BF10.out 0))
        have BF11 := Aside0.mk (blk_put (cs := #[.nilFunc]) BF10.out 0 (.func (.func 99) #[] #[.pointer (some ⟨gm, 0, none⟩), .pointer (some ⟨gp, 0, none⟩), .pointer (some ⟨go, 0, none⟩), .pointer (some ⟨gb, 0, none⟩), .pointer (some ⟨gl, 0, none⟩), .pointer (some ⟨gL, 0, none⟩), .pointer (some ⟨gf, 0, none⟩)]) rfl)
        have L9 := Aside0.mk (show w.heap.size ≤ gL ∧ gL < gp ∧ gp < gb ∧ gb < gm ∧ gm < w8.heap.size ∧ w8.heap.size ≤ go ∧ w8.heap.size ≤ gl ∧ w8.heap.size ≤ bo ∧ go < gf ∧ gl < gf ∧ bo < gf from by
            have := LG.out; have := LP.out; have := LB.out; have := LM.out; have := LM8.out; have := HG.out; have := LF.out; omega)
        obtain ⟨bl, hbl⟩ : ∃ bl, (AL = some ⟨bl, 0, none⟩ ∨ (AL = none ∧ L = [])) ∧ w8.heap.size ≤ bl ∧ bl ≠ gf ∧ bl ≠ go ∧ bl ≠ gl ∧ bl ≠ bo := by
          rcases List.eq_nil_or_concat L with e | ⟨_, _, e⟩
          · by_cases hA : AL = none
            · exact ⟨gf + 1, Or.inr ⟨hA, e⟩, by have := L9.out; omega, by omega, by have := L9.out; omega, by have := L9.out; omega, by have := L9.out; omega⟩
            · obtain ⟨ad, rfl⟩ := Option.ne_none_iff_exists'.mp hA
              obtain ⟨g, rfl⟩ := Kd.R_head HRL10.out
              have z := LQ.out g rfl
              have z2 := HQ.out g rfl
              exact ⟨g, Or.inl rfl, z.1, by omega, z2.1, z2.2.1, z2.2.2⟩
          · obtain ⟨ad, c, ev⟩ := Kd.R_slice1 HRL10.out (by rw [e]; simp)
            cases ev
            obtain ⟨g, rfl⟩ := Kd.R_head HRL10.out
            have z := LQ.out g rfl
            have z2 := HQ.out g rfl
            exact ⟨g, Or.inl rfl, z.1, by omega, z2.1, z2.2.1, z2.2.2⟩
        have HBL := Aside0.mk hbl
        clear hbl
        have HI : Aside0 (impl_FewestOpened_1.Inv w (w10.setCell ⟨gf, 0, none⟩ (.func (.func 99) #[] #[.pointer (some ⟨gm, 0, none⟩), .pointer (some ⟨gp, 0, none⟩), .pointer (some ⟨go, 0, none⟩), .pointer (some ⟨gb, 0, none⟩), .pointer (some ⟨gl, 0, none⟩), .pointer (some ⟨gL, 0, none⟩), .pointer (some ⟨gf, 0, none⟩)])) A0 c0 l0 A1 c1 l1 AL gl gm gL go gb gp gf bo bl l1.length cl (List.replicate l1.length 0) L [] (-1) (.slice none 0 0)) := ⟨by
          have q := L9.out
          have q2 := HBL.out
          have hbo := blk_far Hbo10.out (p := ⟨gf, 0, none⟩) (by show bo ≠ gf; omega) (.func (.func 99) #[] #[.pointer (some ⟨gm, 0, none⟩), .pointer (some ⟨gp, 0, none⟩), .pointer (some ⟨go, 0, none⟩), .pointer (some ⟨gb, 0, none⟩), .pointer (some ⟨gl, 0, none⟩), .pointer (some ⟨gL, 0, none⟩), .pointer (some ⟨gf, 0, none⟩)])
          refine ⟨below_set B10.out (by omega), ?_, ?_, blk_far BL10.out (by show gL ≠ gf; omega) _, blk_far BP10.out (by show gp ≠ gf; omega) _, ?_, blk_far HL10.out (by show gl ≠ gf; omega) _, blk_far BB10.out (by show gb ≠ gf; omega) _, blk_far BM10.out (by show gm ≠ gf; omega) _, BF11.out, ?_, ?_, Kd.R_nil _ _ _ _ _, by simp [Value.ownBlock], (fun _ => by simp [Value.ownBlock]), by simp [Value.ownBlock], q2.1⟩
          · intro g hg
            simp only [List.mem_cons, List.not_mem_nil, or_false] at hg
            have := S8.out
            omega
          · have hn := HN.out
            have q3 := q2.2
            clear q2
            simp only [List.nodup_cons, List.mem_cons, List.not_mem_nil, or_false, not_or, List.nodup_nil, and_true, not_false_eq_true]
            refine ⟨⟨?_, ?_, ?_, ?_, ?_, ?_, ?_, ?_⟩, ⟨?_, ?_, ?_, ?_, ?_, ?_, ?_⟩, ⟨?_, ?_, ?_, ?_, ?_, ?_⟩, ⟨?_, ?_, ?_, ?_, ?_⟩, ⟨?_, ?_, ?_, ?_⟩, ⟨?_, ?_, ?_⟩, ⟨?_, ?_⟩, ?_⟩ <;> omega
          · rw [List.length_replicate]; exact blk_far HO10.out (by show go ≠ gf; omega) _
          · rw [List.length_replicate]; exact impl_FewestOpened.zeros hbo (by have := S8.out; omega) HQ2.out
          · exact impl_FewestOpened_1.far (Kd.R_lower HRL10.out S8.out) (fun e => by have := (LQ.out _ e).2; omega) _ _⟩
        clear BF10 BM10 BB10 BL10 BP10 HO10 HL10 Hbo10 HRL10 B10 BF11 hcf hff
        generalize w10.setCell ⟨gf, 0, none⟩ _ = w11 at *
        obtain ⟨⟨O2, L2, B2, m2⟩, hput, hk⟩ := Option.bind_eq_some_iff.mp HK.out
        simp only at hk
        have HP := Aside0.mk hput
        have hcf : w11.cell? ⟨gf, 0, none⟩ = some (.func (.func 99) #[] #[.pointer (some ⟨gm, 0, none⟩), .pointer (some ⟨gp, 0, none⟩), .pointer (some ⟨go, 0, none⟩), .pointer (some ⟨gb, 0, none⟩), .pointer (some ⟨gl, 0, none⟩), .pointer (some ⟨gL, 0, none⟩), .pointer (some ⟨gf, 0, none⟩)]) := (blk_cell HI.out.hf 0).trans rfl
        have eg := impl_FewestOpened_1.eg
        by_cases hm : m2 < 0
        · rw [if_pos hm] at hk
          have e := Option.some.inj hk
          simp only [Prod.mk.injEq] at e
          obtain ⟨rfl, rfl, rfl⟩ := e
          have dm : decide (m2 < 0) = true := decide_eq_true hm
          clear hk hput HK
          go_wp2_with (go_at_fn 99; refine (impl_FewestOpened_1.calls w A0 c0 l0 A1 c1 l1 AL gl gm gL go gb gp gf bo bl l1.length cl HR.out HD.out k 0 0 _ _ [] (-1) (.slice none 0 0) _ O2 L2 B2 m2 HI.out HP.out).mono ?_; rintro e w12 ⟨rfl, vB2, hI⟩; have HI12 := Aside0.mk hI; clear hI HI hcf; obtain ⟨A2, c2, e2⟩ := Kd.R_slice HI12.out.rb; subst e2; have hcb : w12.cell? ⟨gb, 0, none⟩ = some (.slice A2 B2.length c2) := (blk_cell HI12.out.hb 0).trans rfl; have hcm : w12.cell? ⟨gm, 0, none⟩ = some (.int .i64 m2) := (blk_cell HI12.out.hm 0).trans rfl)
          go_ret3
          exact ⟨_, rfl, Kd.R_nil _ _ _ _ _, HI12.out.b⟩
        · rw [if_neg hm] at hk
          have e := Option.some.inj hk
          simp only [Prod.mk.injEq] at e
          obtain ⟨rfl, rfl, rfl⟩ := e
          have dm : decide (m2 < 0) = false := decide_eq_false hm
          clear hk hput HK
          go_wp2_with (go_at_fn 99; refine (impl_FewestOpened_1.calls w A0 c0 l0 A1 c1 l1 AL gl gm gL go gb gp gf bo bl l1.length cl HR.out HD.out k 0 0 _ _ [] (-1) (.slice none 0 0) _ O2 L2 B2 m2 HI.out HP.out).mono ?_; rintro e w12 ⟨rfl, vB2, hI⟩; have HI12 := Aside0.mk hI; clear hI HI hcf; obtain ⟨A2, c2, e2⟩ := Kd.R_slice HI12.out.rb; subst e2; have hcb : w12.cell? ⟨gb, 0, none⟩ = some (.slice A2 B2.length c2) := (blk_cell HI12.out.hb 0).trans rfl; have hcm : w12.cell? ⟨gm, 0, none⟩ = some (.int .i64 m2) := (blk_cell HI12.out.hm 0).trans rfl)
          refine wp_region_still_lit (by kernel_rfl) (by kernel_rfl) ?_
          repeat still_step
          refine wpStill_nil ?_
          change Exit.then _ _ _ _ (w12.drewN 1)
          go_wp2
          go_ret3
          exact ⟨_, rfl, Kd.R_drewN HI12.out.rb 1, pw_below_drewN HI12.out.b 1⟩
    · rw [if_neg q2] at H; cases H
  · rw [if_neg hz] at h
    have e := Option.some.inj h
    simp only [Prod.mk.injEq] at e
    obtain ⟨rfl, rfl, rfl⟩ := e
    clear h
    have hz1 : (c != 0) = true := bne_iff_ne.mpr hz
    go_enter Try.func32, Try.ntmps32
    go_wp2_with (first | ((with_reducible refine gate_dst (N := 2) rfl ?_); refine box_event ?hg (N := 2) ?hd (cs := #[.slice A0 l0.length c0]) (t := 37) ?hr ?_; (case hd => rfl); (case hg => rfl); (case hr => first | (go_simp; done) | (go_simp; rfl)); intro gL hgL w1 hL1 hb1; have BL := Aside0.mk hL1; have B1 := Aside0.mk hb1; have GL := Aside0.mk hgL; clear hL1 hb1 hgL) | ((with_reducible refine gate_dst (N := 3) rfl ?_); refine box_event ?hg (N := 3) ?hd (cs := #[.slice A1 l1.length c1]) (t := 25) ?hr ?_; (case hd => rfl); (case hg => rfl); (case hr => first | (go_simp; done) | (go_simp; rfl)); intro gp hgp w2 hp2 hb2; have BP := Aside0.mk hp2; have n0_ := Aside0.mk (blk_below BL.out hb2); have B2 := Aside0.mk (below_then B1.out B1.out.size hb2); have LP := Aside0.mk (show gL < gp by rw [hgp]; exact blk_lt BL.out); clear BL B1 hp2 hb2 hgp; have BL := n0_; clear n0_; have hcL : w2.cell? ⟨gL, 0, none⟩ = some (.slice A0 l0.length c0) := (blk_cell BL.out 0).trans rfl; have hcp : w2.cell? ⟨gp, 0, none⟩ = some (.slice A1 l1.length c1) := (blk_cell BP.out 0).trans rfl) | (go_at_call 97; refine (impl_cutsCode.calls A0 c0 l0 A1 c1 l1 c _ (Kd.C_below HR.out B2.out) HC0.out (Kd.C_below HD.out B2.out) HC1.out HC.out).mono ?_; rintro e w4 ⟨rfl, hb4⟩; have BL4 := Aside0.mk (blk_below BL.out hb4); have BP4 := Aside0.mk (blk_below BP.out hb4); have B4 := Aside0.mk (below_then B2.out B2.out.size hb4); clear hb4 BL BP B2 hcL hcp))
    go_ret3
    exact ⟨_, rfl, Kd.R_nil _ _ _ _ _, B4.out⟩

end Go.Proofs.Ytjhjabibkkhmjaa.XFnExactFewestOpened
