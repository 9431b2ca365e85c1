/- Rows of ints that the call makes. -/
import Derived.Test.YtmkgdgfbdmjeeaaDoorTwB
import Derived.Test.YtmkgdgfbdmjeeaaDoorTfG
namespace Go.Proofs.YtmkgdgfbdmjeeaaDoor
open Go.RowKit
set_option linter.unusedSimpArgs false
set_option linter.unusedVariables false

def OwnN (w : World) (base : Nat) (A : Option Addr) (cap : Nat) (l : List Nat) : Prop := w.ownsRow base 3 1 (.slice A l.length cap) l.length (l.map fun x : Nat => Value.int .i64 (x : Int))
theorem OwnN.nil (w : World) (base : Nat) : OwnN w base none 0 [] := World.ownsRow_nil w base _ 1
theorem OwnN.form {w : World} {base : Nat} {A : Option Addr} {cap : Nat} {l : List Nat} (h : OwnN w base A cap l) : (A = none ∧ l = [] ∧ cap = 0) ∨ ∃ g, A = some ⟨g, 0, none⟩ ∧ base ≤ g ∧ g < w.heap.size ∧ l.length ≤ cap := by
  rcases h.2 with ⟨h2, h3⟩ | ⟨g, cap', cur, h1, h2, h3, h4, _⟩
  · injection h2 with h4 h5 h6
    exact .inl ⟨h4, List.eq_nil_of_length_eq_zero h3, h6⟩
  · injection h1 with e1 e2 e3
    subst e3
    exact .inr ⟨g, e1, h2, (Array.getElem?_eq_some_iff.1 h3).1, h4⟩
/-- The row's block stands: so does the row. -/
theorem OwnN.same {w w' : World} {base : Nat} {A : Option Addr} {cap : Nat} {l : List Nat} (h : OwnN w base A cap l) (hb : ∀ g, A = some ⟨g, 0, none⟩ → w'.heap[g]? = w.heap[g]?) : OwnN w' base A cap l := by
  refine ⟨h.1, ?_⟩
  rcases h.2 with h2 | ⟨g, cap', cur, h1, h2, h3, h4⟩
  · exact .inl h2
  · injection h1 with e1 e2 e3
    exact .inr ⟨g, cap', cur, by rw [e1, e2, e3], h2, (hb g e1).trans h3, h4⟩
theorem OwnN.below {w w' : World} {base B : Nat} {A : Option Addr} {cap : Nat} {l : List Nat} (h : OwnN w base A cap l) (hb : Below B w w') (hB : w.heap.size ≤ B) : OwnN w' base A cap l :=
  World.ownsRow.kept h (row := none) ⟨hb.os, hb.tape, hb.output, hb.size, fun k hk _ => hb.block k (by omega)⟩ (by cases A <;> simp [Value.ownBlock])
theorem OwnN.alloc {w : World} {base : Nat} {A : Option Addr} {cap : Nat} {l : List Nat} (h : OwnN w base A cap l) (o : Obj) : OwnN (w.alloc o) base A cap l := World.ownsRow.alloc h o
theorem OwnN.elem {w : World} {base g : Nat} {cap : Nat} {l : List Nat} (h : OwnN w base (some ⟨g, 0, none⟩) cap l) {j : Nat} {t : Nat} (hp : l[j]? = some t) : w.cell? ⟨g, j, none⟩ = some (.int .i64 (t : Int)) := by
  have hk : j < l.length := (List.getElem?_eq_some_iff.1 hp).1
  rw [World.ownsRow.cellAt h j (by omega), List.getElem?_map, hp]
  rfl
theorem app_int {w : World} {ops : Array Oper} {rest : List Oper} {o : Oper} {a : Act} {Q : Exit → Act → World → Prop} (hgd : o.guard = none) (s x : Operand)
    (ho : o.op = .call { callee := .builtin .append, args := #[s, x], argTypes := #[34, 34] })
    (base : Nat) (A : Option Addr) (cap : Nat) (l : List Nat) (hs : a.eval s = .slice A l.length cap) (hown : OwnN w base A cap l)
    (t : Nat) (b c : Nat) (hx : a.eval x = .slice (some ⟨b, 0, none⟩) 1 c) (hb : w.heap[b]? = some (.cells #[.int .i64 (t : Int)] 3 (0, 0)))
    (hfew : l.length < 1000000) (hbase : base ≤ w.heap.size)
    (h : ∀ g cap' w', OwnN w' base (some ⟨g, 0, none⟩) cap' (l ++ [t]) → w.grownBy w' (A.map (·.block)) → (A.map (·.block) = some g ∨ g = w.heap.size) → g < w'.heap.size → wpList Tryd.prog ops Q rest (a.put o.dst (.slice (some ⟨g, 0, none⟩) (l.length + 1) cap')) w') :
    wpList Tryd.prog ops Q (o :: rest) a w := by
  obtain ⟨i0, hi0, hz0, hz1, hz2⟩ := info_parts int_info
  refine wpList_append_lies w hgd s x 34 ho base 3 i0 _ 1 8 Tryd.underlying34 hi0 hz0 hz1 hz2 rfl (by omega) _ l.length (l.map fun x : Nat => Value.int .i64 (x : Int)) hs hown ⟨b, 0, none⟩ 1 c [.int .i64 (t : Int)] hx rfl (World.news_of_block (cs := #[.int .i64 (t : Int)]) hb)
    (by simp [Value.oneCell']) (by omega) (by unfold maxLen; omega) (by omega) hbase w.heap.size rfl ?_
  intro g cap' w' ho' hg hat hlt
  refine h g cap' w' ?_ ?_ ?_ hlt
  · unfold OwnN
    rw [List.map_append, List.length_append]
    exact ho'
  · cases A <;> simpa [Value.ownBlock] using hg
  · cases A <;> simpa [Value.ownBlock] using hat

end Go.Proofs.YtmkgdgfbdmjeeaaDoor
