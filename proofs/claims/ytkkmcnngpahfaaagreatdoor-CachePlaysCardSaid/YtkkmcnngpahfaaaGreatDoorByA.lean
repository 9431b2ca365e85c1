/- Rows of bytes as generic rows. -/
import Derived.Test.YtkkmcnngpahfaaaGreatDoorGnA
import Derived.Test.YtkkmcnngpahfaaaGreatDoorVpZ
namespace Go.Proofs.YtkkmcnngpahfaaaGreatDoor
open Go.RowKit Go.Sort
set_option linter.unusedSimpArgs false
set_option linter.unusedVariables false

def byC (x : Nat) : List Value := [.int .u8 (x : Int)]
theorem by_elem : Elem 99 5 1 1 (.int .u8 0) byC :=
  ⟨Tryz.underlying99, by kernel_rfl, rfl, by decide, by decide, fun _ => rfl, fun x v hv => by simp [byC] at hv; subst hv; rfl⟩
theorem flat_by (n : Nat) (d : Nat → Nat) : ((List.range n).map d).flatMap byC = (List.range n).map fun j => Value.int .u8 (d j : Int) := by
  induction List.range n with
  | nil => rfl
  | cons x l ih => rw [List.map_cons, List.flatMap_cons, ih]; rfl
theorem OwnB.toG {w : World} {base cap n : Nat} {R : Option Addr} {d : Nat → Nat} (h : OwnB w base R cap n d) : OwnG 5 1 byC w base R cap ((List.range n).map d) := by
  unfold OwnG
  rw [flat_by, List.length_map, List.length_range]
  exact h
theorem OwnB.ofG {w : World} {base cap n : Nat} {R : Option Addr} {d : Nat → Nat} (h : OwnG 5 1 byC w base R cap ((List.range n).map d)) : OwnB w base R cap n d := by
  unfold OwnG at h
  rw [flat_by, List.length_map, List.length_range] at h
  exact h

theorem OwnB.formA {w : World} {base cap n : Nat} {A : Option Addr} {d : Nat → Nat} (h : OwnB w base A cap n d) : (A = none ∧ n = 0) ∨ ∃ g, A = some ⟨g, 0, none⟩ ∧ base ≤ g ∧ g < w.heap.size := by
  rcases h.toG.form with ⟨h1, h2, _⟩ | ⟨g, h1, h2, h3, _⟩
  · exact .inl ⟨h1, by simpa using congrArg List.length h2⟩
  · exact .inr ⟨g, h1, h2, h3⟩
theorem OwnB.vAny {w : World} {base cap n : Nat} {A : Option Addr} {d : Nat → Nat} (h : OwnB w base A cap n d) : BytesV w A n d := by
  rcases h.formA with ⟨_, e⟩ | ⟨g, rfl, _⟩
  · intro h0; omega
  · exact h.v
theorem by_read {w : World} {A : Option Addr} {n : Nat} {d : Nat → Nat} (h : BytesV w A n d) : 0 < n → ∃ x, A = some x ∧ ∀ (j : Nat) u, (((List.range n).map d).flatMap byC)[j]? = some u → w.cell? (x.add j) = some u := fun h0 => by
  obtain ⟨x, e, hx⟩ := h h0
  refine ⟨x, e, fun j u hu => ?_⟩
  rw [flat_by, List.getElem?_map] at hu
  obtain ⟨i, hi, rfl⟩ := Option.map_eq_some_iff.1 hu
  obtain ⟨h1, h2⟩ := List.getElem?_eq_some_iff.1 hi
  rw [List.length_range] at h1
  rw [List.getElem_range] at h2
  subst h2
  exact hx j h1
theorem row_type {w : World} {base k n cap : Nat} {T : TypeId} {R : Option Addr} {l : List Value} (h : w.ownsRow base T k (.slice R n cap) n l) {g : Nat} (e : R = some ⟨g, 0, none⟩) : ∃ cur, w.heap[g]? = some (.cells cur T (0, 0)) := by
  subst e
  rcases h.2 with ⟨e, _⟩ | ⟨g', _, cur, e, _, h2, _⟩
  · cases e
  · injection e with e _ _
    injection e with e
    injection e with e
    subst e
    exact ⟨cur, h2⟩
theorem two_types {w : World} {T U : TypeId} {c1 c2 : Array Value} {f1 f2 : Nat × Nat} {b d : Nat} (h1 : w.heap[b]? = some (.cells c1 T f1)) (h2 : w.heap[d]? = some (.cells c2 U f2)) (hT : T ≠ U) : b ≠ d := fun e => by
  subst e
  rw [h1] at h2
  injection h2 with h2
  injection h2 with _ h2
  exact hT h2
theorem rowV_list (n : Nat) (f : Nat → Value) : (rowV n f).toList = (List.range n).map f := by
  simp [rowV]
theorem ownB_made (w : World) (n : Nat) (hn : n ≤ 1000000) (d : Nat → Nat) : OwnB (w.alloc (.cells (rowV n fun i => .int .u8 (d i : Int)) 5)) w.heap.size (some ⟨w.heap.size, 0, none⟩) n n d :=
  ⟨by simp, .inr ⟨w.heap.size, n, _, rfl, Nat.le_refl _, heap_alloc_new w _, Nat.le_refl _, Nat.le_trans hn (by decide), by rw [← Array.length_toList, rowV_list]; simp, by rw [rowV_list, List.take_of_length_le (by simp)]⟩⟩
theorem OwnG.made0 {α : Type} (T : TypeId) (k : Nat) (C : α → List Value) (w : World) : OwnG T k C (w.alloc (.cells #[] T)) w.heap.size (some ⟨w.heap.size, 0, none⟩) 0 [] :=
  ⟨by simp, .inr ⟨w.heap.size, 0, #[], rfl, Nat.le_refl _, heap_alloc_new w _, Nat.le_refl _, by decide, by simp, by simp⟩⟩

end Go.Proofs.YtkkmcnngpahfaaaGreatDoor
