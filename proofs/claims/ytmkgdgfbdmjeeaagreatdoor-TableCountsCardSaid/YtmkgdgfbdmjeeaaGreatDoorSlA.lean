/- The cache's slots as a row of the call's own; the comparison that Slots hands to the sort. -/
import Derived.Test.YtmkgdgfbdmjeeaaGreatDoorCaZ
import Derived.Deep.AppendLies
import Derived.Deep.QuietTactic
import Derived.BigQuiet
import Derived.Sort.Grow

namespace Go.Proofs.YtmkgdgfbdmjeeaaGreatDoor
open Go.RowKit Go.Maps Go.WideMaps Go.Sort
set_option linter.unusedSimpArgs false
set_option linter.unusedVariables false

/-- A slot as the row of Slots bears it. -/
def sl (s : Slot) : List Value := [.int .i64 s.ino, .int .i64 s.page, .int .i64 (s.frame : Int)]
def sls (l : List Slot) : List Value := l.flatMap sl
theorem sls_append (a b : List Slot) : sls (a ++ b) = sls a ++ sls b := List.flatMap_append
theorem sls_one (s : Slot) : sls [s] = sl s := by simp [sls]
theorem sls_length (l : List Slot) : (sls l).length = l.length * 3 := by
  induction l with
  | nil => rfl
  | cons a l ih =>
    unfold sls at *
    rw [List.flatMap_cons, List.length_append, ih, List.length_cons]
    simp [sl]
    omega
theorem sls_get (l : List Slot) (k j : Nat) (hj : j < 3) {s : Slot} (hk : l[k]? = some s) : (sls l)[k * 3 + j]? = (sl s)[j]? := by
  induction l generalizing k with
  | nil => simp at hk
  | cons a l ih =>
    unfold sls at *
    rw [List.flatMap_cons]
    cases k with
    | zero =>
      simp only [List.getElem?_cons_zero, Option.some.injEq] at hk
      subst hk
      rw [List.getElem?_append_left (by simp [sl]; omega), Nat.zero_mul, Nat.zero_add]
    | succ k =>
      rw [List.getElem?_append_right (by simp [sl]; omega)]
      have e : (k + 1) * 3 + j - (sl a).length = k * 3 + j := by simp [sl]; omega
      rw [e]
      exact ih k (by simpa using hk)
theorem sls_one_cell (l : List Slot) : ∀ u ∈ sls l, u.oneCell' = true := by
  intro u hu
  obtain ⟨s, _, h⟩ := List.mem_flatMap.1 hu
  simp only [sl, List.mem_cons, List.not_mem_nil, or_false] at h
  rcases h with rfl | rfl | rfl <;> rfl

/-- A row of slots of the call's own. -/
def OwnQ (w : World) (base : Nat) (A : Option Addr) (cap : Nat) (l : List Slot) : Prop := w.ownsRow base 67 3 (.slice A l.length cap) l.length (sls l)
theorem slot_info : (Tryz.prog.info? 67).map (fun i => (i.zero, i.size, i.bytes)) = some (some (.agg #[.int .i64 0, .int .i64 0, .int .i64 0]), 3, 24) := by kernel_rfl
theorem OwnQ.nil (w : World) (base : Nat) : OwnQ w base none 0 [] := World.ownsRow_nil w base _ 3
theorem OwnQ.kept {w w' : World} {base : Nat} {A : Option Addr} {cap : Nat} {l : List Slot} {row : Option Nat} (h : OwnQ w base A cap l) (hg : w.grownBy w' row) (hne : A.map (·.block) = none ∨ A.map (·.block) ≠ row) : OwnQ w' base A cap l :=
  World.ownsRow.kept h hg (by cases A <;> simp_all [Value.ownBlock])
theorem OwnQ.below {w w' : World} {base B : Nat} {A : Option Addr} {cap : Nat} {l : List Slot} (h : OwnQ w base A cap l) (hb : Below B w w') (hB : w.heap.size ≤ B) : OwnQ w' base A cap l :=
  h.kept (row := none) ⟨hb.os, hb.tape, hb.output, hb.size, fun k hk _ => hb.block k (by omega)⟩ (by cases A <;> simp)
theorem OwnQ.form {w : World} {base : Nat} {A : Option Addr} {cap : Nat} {l : List Slot} (h : OwnQ w base A cap l) : (A = none ∧ l = [] ∧ cap = 0) ∨ ∃ g cur, A = some ⟨g, 0, none⟩ ∧ base ≤ g ∧ g < w.heap.size ∧ l.length ≤ cap ∧ w.heap[g]? = some (.cells cur 67 (0, 0)) ∧ cur.size = cap * 3 ∧ cur.toList.take (l.length * 3) = sls l := by
  rcases h.2 with ⟨h2, h3⟩ | ⟨g, cap', cur, h1, h2, h3, h4, h5, h6, h7⟩
  · injection h2 with h4 h5 h6
    exact .inl ⟨h4, List.eq_nil_of_length_eq_zero h3, h6⟩
  · injection h1 with e1 e2 e3
    subst e3
    exact .inr ⟨g, cur, e1, h2, (Array.getElem?_eq_some_iff.1 h3).1, h4, h3, h6, h7⟩
/-- The row's cells, as they are read. -/
theorem OwnQ.cell {w : World} {base g cap : Nat} {l : List Slot} (h : OwnQ w base (some ⟨g, 0, none⟩) cap l) {k j : Nat} (hj : j < 3) {s : Slot} (hk : l[k]? = some s) : w.cell? ⟨g, k * 3 + j, none⟩ = (sl s)[j]? := by
  have hk2 : k < l.length := (List.getElem?_eq_some_iff.1 hk).1
  rw [World.ownsRow.cellAt h (k * 3 + j) (by omega), sls_get l k j hj hk]

theorem app_slot {w : World} {ops : Array Oper} {rest : List Oper} {o : Oper} {a : Act} {Q : Exit → Act → World → Prop} (hgd : o.guard = none) (s x : Operand)
    (ho : o.op = .call { callee := .builtin .append, args := #[s, x], argTypes := #[61, 61] })
    (base : Nat) (A : Option Addr) (cap : Nat) (l : List Slot) (hs : a.eval s = .slice A l.length cap) (hown : OwnQ w base A cap l)
    (r : Slot) (b c : Nat) (hx : a.eval x = .slice (some ⟨b, 0, none⟩) 1 c) (hb : w.heap[b]? = some (.cells #[.int .i64 r.ino, .int .i64 r.page, .int .i64 (r.frame : Int)] 67 (0, 0)))
    (hfew : l.length < 1000000) (hbase : base ≤ w.heap.size)
    (h : ∀ g cap' w', OwnQ w' base (some ⟨g, 0, none⟩) cap' (l ++ [r]) → w.grownBy w' (A.map (·.block)) → (A.map (·.block) = some g ∨ g = w.heap.size) → g < w'.heap.size → wpList Tryz.prog ops Q rest (a.put o.dst (.slice (some ⟨g, 0, none⟩) (l.length + 1) cap')) w') :
    wpList Tryz.prog ops Q (o :: rest) a w := by
  obtain ⟨i0, hi0, hz0, hz1, hz2⟩ := info_parts slot_info
  refine wpList_append_lies w hgd s x 61 ho base 67 i0 _ 3 24 Tryz.underlying61 hi0 hz0 hz1 hz2 rfl (by omega) _ l.length (sls l) hs hown ⟨b, 0, none⟩ 1 c (sl r) hx rfl (World.news_of_block (cs := #[.int .i64 r.ino, .int .i64 r.page, .int .i64 (r.frame : Int)]) hb)
    (by rw [← sls_one]; exact sls_one_cell _) (by omega) (by unfold maxLen; omega) (by omega) hbase w.heap.size rfl ?_
  intro g cap' w' ho' hg hat hlt
  refine h g cap' w' ?_ ?_ ?_ hlt
  · unfold OwnQ
    rw [sls_append, sls_one, List.length_append]
    exact ho'
  · cases A <;> simpa [Value.ownBlock] using hg
  · cases A <;> simpa [Value.ownBlock] using hat

/-- What the sort is told of a slot: its numbers, within bounds. -/
def small (i : Int) : Int := i % 4611686018427387904
def sc (s : Slot) : List Value := [.int .i64 (small s.ino), .int .i64 (small s.page), .int .i64 (s.frame : Int)]
def cmpS (x y : Slot) : Int := if small x.ino = small y.ino then small x.page - small y.page else small x.ino - small y.ino
theorem small_in (i : Int) : 0 ≤ small i ∧ small i < 4611686018427387904 := ⟨Int.emod_nonneg _ (by decide), Int.emod_lt_of_pos _ (by decide)⟩

set_option maxRecDepth 100000 in
set_option maxHeartbeats 4000000 in
theorem cmp_ints (i p f j q g : Int) (hi : 0 ≤ i ∧ i < 4611686018427387904) (hp : 0 ≤ p ∧ p < 4611686018427387904) (hj : 0 ≤ j ∧ j < 4611686018427387904) (hq : 0 ≤ q ∧ q < 4611686018427387904) (W : World) :
    Calls Tryz.prog 84 #[.agg #[.int .i64 i, .int .i64 p, .int .i64 f], .agg #[.int .i64 j, .int .i64 q, .int .i64 g]] W
      fun e w' => e = .returned (.int .i64 (if i = j then p - q else i - j)) ∧ ∃ n os, w' = grow (W.drewN n) os := by
  by_cases h : i = j
  · subst h
    rw [if_pos rfl]
    have hw1 : IntKind.i64.wrap (p - q) = p - q := IntWalk.i64_in _ (by omega)
    go_enter Tryz.func84, Tryz.ntmps84
    go_wp2
    go_ret
    exact ⟨rfl, 0, _, by rw [alloc_eq_grow, alloc_eq_grow, grow_grow]; rfl⟩
  · rw [if_neg h]
    have hw1 : IntKind.i64.wrap (i - j) = i - j := IntWalk.i64_in _ (by omega)
    go_enter Tryz.func84, Tryz.ntmps84
    go_wp2
    go_ret
    exact ⟨rfl, 0, _, by rw [alloc_eq_grow, alloc_eq_grow, grow_grow]; rfl⟩

theorem cmp_any (x y : Slot) (W : World) : Calls Tryz.prog 84 #[.agg (sc x).toArray, .agg (sc y).toArray] W
    fun e w' => e = .returned (.int .i64 (cmpS x y)) ∧ ∃ n os, w' = grow (W.drewN n) os :=
  cmp_ints (small x.ino) (small x.page) x.frame (small y.ino) (small y.page) y.frame (small_in _) (small_in _) (small_in _) (small_in _) W

theorem cons_erase {α : Type} : ∀ {l : List α} {j : Nat} {a : α}, l[j]? = some a → l.Perm (a :: l.eraseIdx j)
  | [], _, _, h => by simp at h
  | x :: l, 0, a, h => by
    simp only [List.getElem?_cons_zero, Option.some.injEq] at h
    subst h
    exact List.Perm.refl _
  | x :: l, j + 1, a, h => by
    have ih := cons_erase (l := l) (j := j) (a := a) (by simpa using h)
    rw [List.eraseIdx_cons_succ]
    exact (List.Perm.cons x ih).trans (List.Perm.swap a x _)

/-- One slot less: what is left is that slot and the rest. -/
theorem left_perm {left : List Slot} (h : Sole left) {s : Slot} (hs : s ∈ left) : left.Perm (s :: left.filter fun x => !Slot.at s.ino s.page x) := by
  obtain ⟨j, hj⟩ := List.mem_iff_getElem?.1 hs
  rw [← erase_filter h hj]
  exact cons_erase hj

end Go.Proofs.YtmkgdgfbdmjeeaaGreatDoor
