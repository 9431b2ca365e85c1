/- The sort's row and the row of slots; what the sort leaves is rising. Plain. -/
import Derived.Test.YtmkgdgfbdmjeeaaGreatDoorSlA
import Derived.Shelf.GgSortFunc.InsertionK
import Derived.Sort.LotA

namespace Go.Proofs.YtmkgdgfbdmjeeaaGreatDoor
open Go.RowKit Go.Maps Go.WideMaps Go.Sort
set_option linter.unusedSimpArgs false
set_option linter.unusedVariables false

instance : Inhabited Slot := ⟨⟨0, 0, 0, 0⟩⟩
def Rising (l : List Slot) : Prop := l.Pairwise fun a b => a.ino < b.ino ∨ a.ino = b.ino ∧ a.page < b.page
def Small (l : List Slot) : Prop := ∀ s ∈ l, small s.ino = s.ino ∧ small s.page = s.page
theorem Small.sc {l : List Slot} (h : Small l) {s : Slot} (hs : s ∈ l) : sc s = sl s := by
  unfold Go.Proofs.YtmkgdgfbdmjeeaaGreatDoor.sc sl
  rw [(h s hs).1, (h s hs).2]
theorem flat_get {l : List Slot} (h : Small l) (t : Nat) (ht : t < l.length * 3) : (sls l)[t]? = some (flatK sc 3 l.toArray)[t]! := by
  rw [get_flatK _ _ _ _ (by simpa using ht)]
  have h3 : t / 3 < l.length := by omega
  have e : l.toArray[t / 3]! = l[t / 3] := by simp [h3]
  rw [e, h.sc (List.getElem_mem h3)]
  have e2 := sls_get l (t / 3) (t % 3) (by omega) (List.getElem?_eq_getElem h3)
  rw [show t / 3 * 3 + t % 3 = t by omega] at e2
  rw [e2]
  have : t % 3 < 3 := by omega
  generalize t % 3 = j at this ⊢
  match j, this with
  | 0, _ => rfl
  | 1, _ => rfl
  | 2, _ => rfl
theorem OwnQ.holds {w : World} {base g cap : Nat} {l : List Slot} (h : OwnQ w base (some ⟨g, 0, none⟩) cap l) (hs : Small l) : HoldsK sc 3 w g 0 l.toArray := fun j hj => by
  rcases h.form with ⟨h1, _⟩ | ⟨g', cur, h1, _, h2, h3, h4, h5, h6⟩
  · cases h1
  · injection h1 with h1
    injection h1 with h1
    subst h1
    have hj' : j < l.length * 3 := by simpa using hj
    have e1 := World.ownsRow.cellAt h j hj'
    rw [Nat.zero_add, e1]
    exact ⟨flat_get hs j hj', one_free h4 j⟩
/-- The world that the sort leaves: the row holds the new order. -/
theorem OwnQ.sorted {w : World} {base g cap n : Nat} {l : List Slot} {d : Array Slot} {os : Array Obj} (h : OwnQ w base (some ⟨g, 0, none⟩) cap l) (hs : Small d.toList) (hl : d.size = l.length) :
    OwnQ (sortWorldK sc 3 w g 0 n d os) base (some ⟨g, 0, none⟩) cap d.toList ∧ Below base w (sortWorldK sc 3 w g 0 n d os) := by
  rcases h.2 with ⟨h1, _⟩ | ⟨g', cap', cur, h1, hb, h3, h4, h5, h6, h7⟩
  · cases h1
  injection h1 with e1 e2 e3
  injection e1 with e1
  injection e1 with e1
  subst e1
  subst e3
  have hgw : g < w.heap.size := (Array.getElem?_eq_some_iff.1 h3).1
  have hheap : (sortWorldK sc 3 w g 0 n d os).heap = (w.heap.modify g (onCells (putCells id 0 (flatK sc 3 d)))) ++ os := rfl
  constructor
  · refine ⟨sls_length _, .inr ⟨g, cap, putCells id 0 (flatK sc 3 d) cur, by simp [hl], hb, ?_, by simpa [hl] using h4, h5, by simp [putCells, h6], ?_⟩⟩
    · rw [hheap, Array.getElem?_append_left (by simpa using hgw), Array.getElem?_modify, if_pos rfl, h3]
      rfl
    · apply List.ext_getElem?
      intro t
      have h4' : l.length * 3 ≤ cap * 3 := by omega
      by_cases ht : t < d.size * 3
      · rw [List.getElem?_take, if_pos (by simpa using ht), flat_get hs t (by simpa using ht)]
        have htc : t < cur.size := by omega
        simp [putCells, htc, ht]
      · rw [List.getElem?_take, if_neg (by simpa using ht), List.getElem?_eq_none (by rw [sls_length]; simpa using ht)]
  · refine ⟨rfl, rfl, rfl, by rw [hheap]; simp, fun b hb' => ?_⟩
    rw [hheap, Array.getElem?_append_left (by simp; omega), Array.getElem?_modify, if_neg (by omega)]

theorem cmp_neg (x y : Slot) : cmpS x y < 0 ↔ small x.ino < small y.ino ∨ small x.ino = small y.ino ∧ small x.page < small y.page := by
  unfold cmpS
  split <;> omega
theorem rising_of {l : List Slot} (hs : Small l) (hS : Sole l) (h : ∀ i j, (hij : i < j) → (hj : j < l.length) → ¬ cmpS (l[j]'hj) (l[i]'(by omega)) < 0) : Rising l := by
  unfold Rising
  rw [List.pairwise_iff_getElem]
  intro i j hi hj hij
  have h1 := h i j hij hj
  rw [cmp_neg] at h1
  have h2 := (List.pairwise_iff_getElem.1 hS) i j hi hj hij
  have h3 := hs _ (List.getElem_mem hi)
  have h4 := hs _ (List.getElem_mem hj)
  rw [h3.1, h3.2, h4.1, h4.2] at h1
  omega

end Go.Proofs.YtmkgdgfbdmjeeaaGreatDoor
