/- What a law's arguments hold when they are read as data: for integers, bools, strings, slices, structs and arrays of these, a Lean value that the cells encode; no conditions beyond the reading itself. -/
import Derived.Test.YthfanjdbemoaaaaWWords
import Derived.SizedLaws
import Derived.ChangeSlices
import Derived.Deep.Slices
import Derived.OpenShut
namespace Go.Proofs.YthfanjdbemoaaaaX
open Go.RowKit Go.ChangeShapes Go.WideShapes Go.Deep Go.Proofs.YthfanjdbemoaaaaW.PrintWords
set_option linter.unusedVariables false
/-- What is read as a datum of type t encodes a value of the kind d, and that value is good. -/
def Dec {α H : Type} (enc : TypeId × Value → H) (P : Program) (W : World) (t : TypeId) (d : Kd α) (good : α → Prop) : Prop :=
  ∀ (n : Nat) (cs : List Value) (x : DataW H × List MemPlace), DataW.trod enc P W 0 (fun _ => true) true n t cs = some x → (∀ m ∈ x.1.weights P t, m ≤ reachBytes) → ∃ y, d.K W y cs ∧ good y
theorem list1 {β : Type} {l : List β} (h : l.length = 1) : ∃ a0, l = [a0] := by
  cases l with
  | nil => simp at h
  | cons a0 l =>
    cases l with
    | nil => exact ⟨a0, rfl⟩
    | cons _ _ => simp at h
theorem list2 {β : Type} {l : List β} (h : l.length = 2) : ∃ a0 a1, l = [a0, a1] := by
  cases l with
  | nil => simp at h
  | cons a0 l =>
    cases l with
    | nil => simp at h
    | cons a1 l =>
      cases l with
      | nil => exact ⟨a0, a1, rfl⟩
      | cons _ _ => simp at h
theorem list3 {β : Type} {l : List β} (h : l.length = 3) : ∃ a0 a1 a2, l = [a0, a1, a2] := by
  cases l with
  | nil => simp at h
  | cons a0 l =>
    cases l with
    | nil => simp at h
    | cons a1 l =>
      cases l with
      | nil => simp at h
      | cons a2 l =>
        cases l with
        | nil => exact ⟨a0, a1, a2, rfl⟩
        | cons _ _ => simp at h
theorem list4 {β : Type} {l : List β} (h : l.length = 4) : ∃ a0 a1 a2 a3, l = [a0, a1, a2, a3] := by
  cases l with
  | nil => simp at h
  | cons a0 l =>
    cases l with
    | nil => simp at h
    | cons a1 l =>
      cases l with
      | nil => simp at h
      | cons a2 l =>
        cases l with
        | nil => simp at h
        | cons a3 l =>
          cases l with
          | nil => exact ⟨a0, a1, a2, a3, rfl⟩
          | cons _ _ => simp at h
theorem list5 {β : Type} {l : List β} (h : l.length = 5) : ∃ a0 a1 a2 a3 a4, l = [a0, a1, a2, a3, a4] := by
  cases l with
  | nil => simp at h
  | cons a0 l =>
    cases l with
    | nil => simp at h
    | cons a1 l =>
      cases l with
      | nil => simp at h
      | cons a2 l =>
        cases l with
        | nil => simp at h
        | cons a3 l =>
          cases l with
          | nil => simp at h
          | cons a4 l =>
            cases l with
            | nil => exact ⟨a0, a1, a2, a3, a4, rfl⟩
            | cons _ _ => simp at h
theorem list6 {β : Type} {l : List β} (h : l.length = 6) : ∃ a0 a1 a2 a3 a4 a5, l = [a0, a1, a2, a3, a4, a5] := by
  cases l with
  | nil => simp at h
  | cons a0 l =>
    cases l with
    | nil => simp at h
    | cons a1 l =>
      cases l with
      | nil => simp at h
      | cons a2 l =>
        cases l with
        | nil => simp at h
        | cons a3 l =>
          cases l with
          | nil => simp at h
          | cons a4 l =>
            cases l with
            | nil => simp at h
            | cons a5 l =>
              cases l with
              | nil => exact ⟨a0, a1, a2, a3, a4, a5, rfl⟩
              | cons _ _ => simp at h
theorem list7 {β : Type} {l : List β} (h : l.length = 7) : ∃ a0 a1 a2 a3 a4 a5 a6, l = [a0, a1, a2, a3, a4, a5, a6] := by
  cases l with
  | nil => simp at h
  | cons a0 l =>
    cases l with
    | nil => simp at h
    | cons a1 l =>
      cases l with
      | nil => simp at h
      | cons a2 l =>
        cases l with
        | nil => simp at h
        | cons a3 l =>
          cases l with
          | nil => simp at h
          | cons a4 l =>
            cases l with
            | nil => simp at h
            | cons a5 l =>
              cases l with
              | nil => simp at h
              | cons a6 l =>
                cases l with
                | nil => exact ⟨a0, a1, a2, a3, a4, a5, a6, rfl⟩
                | cons _ _ => simp at h
theorem list8 {β : Type} {l : List β} (h : l.length = 8) : ∃ a0 a1 a2 a3 a4 a5 a6 a7, l = [a0, a1, a2, a3, a4, a5, a6, a7] := by
  cases l with
  | nil => simp at h
  | cons a0 l =>
    cases l with
    | nil => simp at h
    | cons a1 l =>
      cases l with
      | nil => simp at h
      | cons a2 l =>
        cases l with
        | nil => simp at h
        | cons a3 l =>
          cases l with
          | nil => simp at h
          | cons a4 l =>
            cases l with
            | nil => simp at h
            | cons a5 l =>
              cases l with
              | nil => simp at h
              | cons a6 l =>
                cases l with
                | nil => simp at h
                | cons a7 l =>
                  cases l with
                  | nil => exact ⟨a0, a1, a2, a3, a4, a5, a6, a7, rfl⟩
                  | cons _ _ => simp at h
theorem list9 {β : Type} {l : List β} (h : l.length = 9) : ∃ a0 a1 a2 a3 a4 a5 a6 a7 a8, l = [a0, a1, a2, a3, a4, a5, a6, a7, a8] := by
  cases l with
  | nil => simp at h
  | cons a0 l =>
    cases l with
    | nil => simp at h
    | cons a1 l =>
      cases l with
      | nil => simp at h
      | cons a2 l =>
        cases l with
        | nil => simp at h
        | cons a3 l =>
          cases l with
          | nil => simp at h
          | cons a4 l =>
            cases l with
            | nil => simp at h
            | cons a5 l =>
              cases l with
              | nil => simp at h
              | cons a6 l =>
                cases l with
                | nil => simp at h
                | cons a7 l =>
                  cases l with
                  | nil => simp at h
                  | cons a8 l =>
                    cases l with
                    | nil => exact ⟨a0, a1, a2, a3, a4, a5, a6, a7, a8, rfl⟩
                    | cons _ _ => simp at h
theorem list10 {β : Type} {l : List β} (h : l.length = 10) : ∃ a0 a1 a2 a3 a4 a5 a6 a7 a8 a9, l = [a0, a1, a2, a3, a4, a5, a6, a7, a8, a9] := by
  cases l with
  | nil => simp at h
  | cons a0 l =>
    cases l with
    | nil => simp at h
    | cons a1 l =>
      cases l with
      | nil => simp at h
      | cons a2 l =>
        cases l with
        | nil => simp at h
        | cons a3 l =>
          cases l with
          | nil => simp at h
          | cons a4 l =>
            cases l with
            | nil => simp at h
            | cons a5 l =>
              cases l with
              | nil => simp at h
              | cons a6 l =>
                cases l with
                | nil => simp at h
                | cons a7 l =>
                  cases l with
                  | nil => simp at h
                  | cons a8 l =>
                    cases l with
                    | nil => simp at h
                    | cons a9 l =>
                      cases l with
                      | nil => exact ⟨a0, a1, a2, a3, a4, a5, a6, a7, a8, a9, rfl⟩
                      | cons _ _ => simp at h
section
variable {α H : Type} {enc : TypeId × Value → H} {P : Program} {W : World}
theorem Dec.int {t : TypeId} {k : IntKind} (ht : P.underlying t = some (.int k)) : Dec enc P W t (Kd.int k) (fun n => (Lit.int k n).wf = true) := by
  intro n cs x h _
  obtain ⟨m, rfl, _, hw⟩ := DataW.trod_int ht h
  exact ⟨m, rfl, hw⟩
theorem Dec.string {t : TypeId} (ht : P.underlying t = some .string) : Dec enc P W t Kd.string (fun s => s.size ≤ 140737488351232) := by
  intro n cs x h hw
  obtain ⟨s, rfl, rfl, _⟩ := DataW.trod_string ht h
  refine ⟨s, rfl, ?_⟩
  have h1 := hw s.data.toList.length (by simp [DataW.weights])
  have h2 : s.data.toList.length = s.size := by simp
  rw [h2] at h1
  exact h1
theorem weights_all {e : TypeId} : ∀ {l : List (DataW H)} {d : DataW H}, d ∈ l → ∀ m ∈ d.weights P e, m ∈ DataW.weightsAll P e l
  | [], d, h, _, _ => by cases h
  | a :: l, d, h, m, hm => by
    rw [DataW.weightsAll, List.mem_append]
    cases h with
    | head => exact .inl hm
    | tail _ h => exact .inr (weights_all h m hm)
theorem weights_arr {t e : TypeId} {n : Nat} {parts : List (DataW H)} (h : P.underlying t = some (.array n e)) : (DataW.agg parts).weights P t = DataW.weightsAll P e parts := by
  rw [DataW.weights, h]
theorem okWide_array {t e : TypeId} {n : Nat} {r : Reach} {base : Nat} {v : Value} (ht : P.underlying t = some (.array n e)) (h : Value.okWide P W r base t v) : ∃ cs, v = .agg cs ∧ cs.size = P.cellsOf t := by
  simp only [Value.okWide, ht] at h
  obtain ⟨cs, h1, h2, _⟩ := h
  exact ⟨cs, h1, h2⟩
theorem Dec.slice {t e : TypeId} {d : Kd α} {good : α → Prop} (ht : P.underlying t = some (.slice e)) (hs : d.sz = P.cellsOf e) {B : Nat} (hB : P.bytesOf e = B) (hd : Dec enc P W e d good) :
    Dec enc P W t (Kd.slice e d) (fun l => l.length * B ≤ 140737488351232 ∧ ∀ x ∈ l, good x) := by
  intro n cs x h hw
  rcases open_slice ht h with ⟨rfl, rfl⟩ | ⟨a, len, cap, m, n', D, Pl, rfl, hb, hl, hm, hmm, rfl, hi⟩
  · exact ⟨[], ⟨none, 0, rfl, Nat.le_refl _, Kd.C_nil d W⟩, by simp, by simp⟩
  · have hm' : m = cap := by simpa using hmm
    have hw1 := hw ((len + (cap - len)) * P.bytesOf e) (by simp [DataW.weights, ht, hm'])
    have each : ∀ i, i < len → ∃ y cs', good y ∧ d.K W y cs' ∧ W.cells? 0 (a.add (i * P.cellsOf e)) (P.cellsOf e) = some cs' := by
      intro i hil
      obtain ⟨cs', hc, ht'⟩ := hi i (by omega)
      obtain ⟨y, hk, hg⟩ := hd n' cs' (D i, Pl i) ht' (fun q hq => hw q (by
        simp only [DataW.weights, ht, List.mem_cons, List.mem_append]
        refine .inr (.inl (weights_all (d := D i) ?_ q hq))
        exact List.mem_map.2 ⟨i, List.mem_range.2 hil, rfl⟩))
      exact ⟨y, cs', hg, hk, hc⟩
    refine ⟨List.ofFn (fun i : Fin len => Classical.choose (each i.1 i.2)), ⟨some a, cap, by simp, by simpa using hl, by simp, ?_, fun _ => ⟨a, rfl, ?_⟩⟩, ?_, ?_⟩
    · simp only [List.length_ofFn]; unfold maxLen at hm; omega
    · intro j p hj
      obtain ⟨hjl, hjp⟩ := List.getElem?_eq_some_iff.1 hj
      have hjn : j < len := by simpa using hjl
      have hjp' : Classical.choose (each j hjn) = p := by rw [← hjp]; simp
      obtain ⟨cs', _, hk, hc⟩ := Classical.choose_spec (each j hjn)
      rw [hjp'] at hk
      obtain ⟨_, hlen, hcell⟩ := World.cells?_some hc
      refine ⟨cs', d.K_len hk, hk, fun i u hu => ?_⟩
      have hil : i < P.cellsOf e := by
        obtain ⟨h1, _⟩ := List.getElem?_eq_some_iff.1 hu
        omega
      rw [hs, ← Go.Deep.add_add, hcell i hil, hu]
    · simp only [List.length_ofFn]
      rw [hB] at hw1
      have : len * B ≤ (len + (cap - len)) * B := Nat.mul_le_mul_right _ (by omega)
      exact Nat.le_trans this hw1
    · intro x hx
      obtain ⟨i, rfl⟩ := List.mem_ofFn.1 hx
      obtain ⟨_, hg, _, _⟩ := Classical.choose_spec (each i.1 i.2)
      exact hg
theorem weights_each {ts : List TypeId} {l : List (DataW H)} {j : Nat} {t : TypeId} {d : DataW H} (ht : ts[j]? = some t) (hd : l[j]? = some d) : ∀ m ∈ d.weights P t, m ∈ DataW.weightsEach P ts l :=
  DataW.weights_mem_each ht hd
/-- An argument, by what it holds. -/
theorem Dec.arg {t : TypeId} {d : Kd α} {good : α → Prop} (hd : Dec enc P W t d good) {v : Value} {x : DataW H} {ps : List MemPlace} {ts : List TypeId} {ds : List (DataW H)} {j : Nat}
    (hsz : (DataW.weightsEach P ts ds).all (· ≤ reachBytes) = true) (ht : ts[j]? = some t) (hx : ds[j]? = some x) (h : DataW.Trod enc P W 0 (fun _ => true) true t v x ps) : ∃ y, d.K W y v.cells.toList ∧ good y := by
  obtain ⟨fuel, hf⟩ := h
  refine hd fuel _ _ hf fun m hm => ?_
  have := List.all_eq_true.1 hsz _ (weights_each ht hx m hm)
  simpa using this
end
end Go.Proofs.YthfanjdbemoaaaaX
