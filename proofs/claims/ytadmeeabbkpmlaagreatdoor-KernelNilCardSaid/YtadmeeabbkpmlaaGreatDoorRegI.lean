/- Regions: joined, few, sorted, without of the references. -/
import Derived.Test.YtadmeeabbkpmlaaGreatDoorRegH
namespace Go.Proofs.YtadmeeabbkpmlaaGreatDoor
open Go.RowKit Go.Sort
set_option linter.unusedSimpArgs false
set_option linter.unusedVariables false
/-- with one more in its place -/
def Rg.ins : List Reg → Reg → List Reg
  | [], r => [r]
  | x :: l, r => if r.fr < x.fr then r :: x :: l else x :: Rg.ins l r

/-- The same, told as the loop goes: what is there behind k, and whether it is laid. -/
def InsTo (l : List Reg) (r : Reg) (k : Nat) (acc : List Reg) (laid : Bool) : Prop :=
  (laid = true → acc ++ l.drop k = Rg.ins l r) ∧ (laid = false → acc ++ Rg.ins (l.drop k) r = Rg.ins l r) ∧ acc.length ≤ k + 1

theorem drop_get {l : List Reg} {k : Nat} {x : Reg} (h : l[k]? = some x) : l.drop k = x :: l.drop (k + 1) := by
  obtain ⟨hk, e⟩ := List.getElem?_eq_some_iff.1 h
  rw [List.drop_eq_getElem_cons hk, e]
theorem InsTo.zero (l : List Reg) (r : Reg) : InsTo l r 0 [] false := ⟨by simp, by simp, by simp⟩
theorem InsTo.laid {l : List Reg} {r x : Reg} {k : Nat} {acc : List Reg} (h : InsTo l r k acc true) (hx : l[k]? = some x) : InsTo l r (k + 1) (acc ++ [x]) true := by
  refine ⟨fun _ => ?_, fun h => by simp at h, by have := h.2.2; simp; omega⟩
  rw [← h.1 rfl, drop_get hx]
  simp
theorem InsTo.here {l : List Reg} {r x : Reg} {k : Nat} {acc : List Reg} (h : InsTo l r k acc false) (hx : l[k]? = some x) (hlt : r.fr < x.fr) (ha : acc.length ≤ k) : InsTo l r (k + 1) (acc ++ [r] ++ [x]) true := by
  refine ⟨fun _ => ?_, fun h => by simp at h, by simp; omega⟩
  rw [← h.2.1 rfl, drop_get hx]
  simp [Rg.ins, hlt]
theorem InsTo.on {l : List Reg} {r x : Reg} {k : Nat} {acc : List Reg} (h : InsTo l r k acc false) (hx : l[k]? = some x) (hlt : ¬ r.fr < x.fr) : InsTo l r (k + 1) (acc ++ [x]) false := by
  refine ⟨fun h => by simp at h, fun _ => ?_, by have := h.2.2; simp; omega⟩
  rw [← h.2.1 rfl, drop_get hx]
  simp [Rg.ins, hlt]
theorem InsTo.end1 {l : List Reg} {r : Reg} {k : Nat} {acc : List Reg} (h : InsTo l r k acc true) (hk : l.length ≤ k) : acc = Rg.ins l r := by
  have := h.1 rfl
  rw [List.drop_of_length_le hk] at this
  simpa using this
theorem InsTo.end0 {l : List Reg} {r : Reg} {k : Nat} {acc : List Reg} (h : InsTo l r k acc false) (hk : l.length ≤ k) : acc ++ [r] = Rg.ins l r := by
  have := h.2.1 rfl
  rw [List.drop_of_length_le hk] at this
  simpa [Rg.ins] using this
theorem ins_len (l : List Reg) (r : Reg) : (Rg.ins l r).length = l.length + 1 := by
  induction l with
  | nil => rfl
  | cons x l ih => simp only [Rg.ins]; split <;> simp [ih]

end Go.Proofs.YtadmeeabbkpmlaaGreatDoor
