/- Regions: Copy of the references; roomy, kept, own of the statements. -/
import Derived.Test.YtadmeeabbkpmlaaGreatDoorRegD
namespace Go.Proofs.YtadmeeabbkpmlaaGreatDoor
open Go.RowKit Go.Sort
set_option linter.unusedSimpArgs false
set_option linter.unusedVariables false

def r77 : Reg := ⟨77, 0, 0, 0, 0⟩

theorem OwnR.rsl' {w : World} {base : Nat} {A : Option Addr} {cap : Nat} {l m : List Reg} (h : OwnR w base A cap (l ++ m)) (hf : l.length + m.length ≤ 1000000) : RSl w w.heap.size A l.length cap l := by
  have h' := h.rsl (by simpa using hf)
  exact ⟨rfl, by have := h'.cap; simp at this; omega, by omega, fun k r hr => h'.at_ k r (by
    rw [List.getElem?_append_left ((List.getElem?_eq_some_iff.1 hr).1)]
    exact hr)⟩

/-- The rows that the statements hand in: with one more behind, in the same memory. -/
def Roomy (w : World) (base : Nat) (A : Option Addr) (cap : Nat) (l : List Reg) : Prop := OwnR w base A cap (l ++ [r77])

theorem Roomy.rsl {w : World} {base : Nat} {A : Option Addr} {cap : Nat} {l : List Reg} (h : Roomy w base A cap l) (hf : l.length ≤ 300) : RSl w w.heap.size A l.length cap l :=
  OwnR.rsl' h (by simp; omega)
theorem Roomy.form {w : World} {base : Nat} {A : Option Addr} {cap : Nat} {l : List Reg} (h : Roomy w base A cap l) : ∃ g, A = some ⟨g, 0, none⟩ ∧ base ≤ g ∧ g < w.heap.size ∧ l.length + 1 ≤ cap := by
  rcases OwnR.form h with ⟨_, h2, _⟩ | ⟨g, h1, h2, h3, h4⟩
  · simp at h2
  · exact ⟨g, h1, h2, h3, by simpa using h4⟩

theorem r77_at {w : World} {base : Nat} {g cap : Nat} {l : List Reg} (h : Roomy w base (some ⟨g, 0, none⟩) cap l) (hf : l.length ≤ 300) : RegAt w g (l.length * 5) r77 := by
  have h1 := OwnR.rsl h (by simp; omega)
  obtain ⟨b, off, he, _, hr⟩ := h1.at_ l.length r77 (by simp)
  obtain ⟨rfl, rfl⟩ : b = g ∧ off = 0 := by simpa [eq_comm] using he
  simpa using hr

end Go.Proofs.YtadmeeabbkpmlaaGreatDoor
