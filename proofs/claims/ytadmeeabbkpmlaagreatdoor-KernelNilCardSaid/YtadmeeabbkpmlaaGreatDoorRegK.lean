/- Regions: without of the references. -/
import Derived.Test.YtadmeeabbkpmlaaGreatDoorRegJ
namespace Go.Proofs.YtadmeeabbkpmlaaGreatDoor
open Go.RowKit Go.Sort
set_option linter.unusedSimpArgs false
set_option linter.unusedVariables false
set_option maxRecDepth 100000

def Rg.wo1 (f t : Int) (r : Reg) : List Reg := if r.to ≤ f ∨ t ≤ r.fr then [r] else (if r.fr < f then [Rg.rpart r r.fr f] else []) ++ (if t < r.to then [Rg.rpart r t r.to] else [])
def Rg.without (l : List Reg) (f t : Int) : List Reg := l.flatMap (Rg.wo1 f t)
theorem without_take {f t : Int} {l : List Reg} {k : Nat} {r : Reg} (hr : l[k]? = some r) : Rg.without (l.take (k + 1)) f t = Rg.without (l.take k) f t ++ Rg.wo1 f t r := by
  rw [List.take_add_one, hr]
  simp [Rg.without]
theorem wo1_len (f t : Int) (r : Reg) : (Rg.wo1 f t r).length ≤ 2 := by
  unfold Rg.wo1
  split
  · simp
  · rw [List.length_append]
    split <;> split <;> simp
theorem without_len (l : List Reg) (f t : Int) : (Rg.without l f t).length ≤ 2 * l.length := by
  induction l with
  | nil => simp [Rg.without]
  | cons r l ih =>
    have h1 := wo1_len f t r
    simp only [Rg.without, List.flatMap_cons, List.length_append, List.length_cons] at *
    omega

theorem app_keep {X w2 : World} {row : Option Nat} {b : Nat} {o : Obj} (hg : X.grownBy w2 row) (hb : X.heap[b]? = some o) (hne : some b ≠ row) : w2.heap[b]? = some o :=
  (hg.block b (Array.getElem?_eq_some_iff.1 hb).1 hne).trans hb

theorem box_facts {w : World} {b : Nat} {r : Reg} (h : w.heap[b]? = some (.cells #[.int .u64 r.fr, .int .u64 r.to, .int .u8 r.prot, .int .i64 r.ino, .int .u64 r.off] 179 (0, 0))) : BoxAt w b r :=
  ⟨one_blockR h 0, one_blockR h 1, one_blockR h 2, one_blockR h 3, one_blockR h 4⟩

end Go.Proofs.YtadmeeabbkpmlaaGreatDoor
