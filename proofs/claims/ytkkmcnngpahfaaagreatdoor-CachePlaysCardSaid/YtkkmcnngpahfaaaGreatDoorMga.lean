/- The cache: Get at any page of any files. The cache's slots as a row of the call's own; the comparison that Slots hands to the sort. The sort's row and the row of slots; what the sort leaves is rising. Plain. -/
import Derived.Test.YtkkmcnngpahfaaaGreatDoorVqD
import Derived.Test.YtkkmcnngpahfaaaGreatDoorCaZ
import Derived.Deep.AppendLies
import Derived.Deep.QuietTactic
import Derived.BigQuiet
import Derived.Sort.Grow
import Derived.Shelf.GgSortFunc.InsertionK
import Derived.Sort.LotA

namespace Go.Proofs.YtkkmcnngpahfaaaGreatDoor
open Go.RowKit Go.Sort
set_option linter.unusedSimpArgs false
set_option linter.unusedVariables false

theorem readR_few (F : List Nd) (ino : Int) (off : Nat) : (readR F ino off).2.1 ≤ 4096 := by
  unfold readR
  repeat' split
  all_goals (simp only []; omega)
theorem readR_byte {F : List Nd} (hF : ∀ (i : Nat) (y : Nd), F[i]? = some y → ∀ j, y.dat j < 256) (ino : Int) (off i : Nat) : (readR F ino off).2.2 i < 256 := by
  have h0 : (0 : Nat) < 256 := by decide
  unfold readR
  split
  · exact h0
  · split
    · exact h0
    · next y hy =>
      split
      · exact h0
      · split
        · exact hF _ y hy _
        · exact h0
/-- What the files hold are bytes. -/
def BytesF (F : List Nd) : Prop := ∀ (i : Nat) (y : Nd), F[i]? = some y → ∀ j, y.dat j < 256
theorem cget_any (B1 nb c2 c a fs m : Nat) (ad mp : Nat → Nat) (F : List Nd) (ino page clock : Int) (w : World) (S : Nat → Prop) (p : Pool) (L : List Slot) (h : CacheAt w S c a fs m clock p L) (hF : FsIs w B1 fs nb c2 ad mp F) (hby : BytesF F) (hi : (Lit.int .i64 ino).wf = true) (hck : 0 ≤ clock ∧ clock < 1000000) :
    Calls Tryz.prog 35 #[.pointer (some ⟨c, 0, none⟩), .int .i64 ino, .int .i64 page] w (GetPost w S c a fs m ino page (pageR F ino page).1 (pageR F ino page).2.1 (pageR F ino page).2.2 clock p L) := by
  by_cases hp : page < 0 ∨ 16 ≤ page
  · exact get_bad c a fs m _ ino page _ clock _ w S p L h hp
  have hrd := read_is (ino := ino) (off := (page * 4096).toNat) hF (by omega)
  rw [show (((page * 4096).toNat : Nat) : Int) = page * 4096 by omega] at hrd
  have hrd' : ReadIs w fs ino (page * 4096) (pageR F ino page).1 (pageR F ino page).2.1 (pageR F ino page).2.2 := hrd
  have hk := readR_few F ino (page * 4096).toNat
  have hd := readR_byte hby ino (page * 4096).toNat
  have hk' : (pageR F ino page).2.1 ≤ 4096 := hk
  have hd' : ∀ i, (pageR F ino page).2.2 i < 256 := hd
  clear hrd hk hd
  generalize pageR F ino page = R at hrd' hk' hd' ⊢
  by_cases hr : R.1 = 0
  · rw [hr] at hrd' ⊢
    cases hs : L.find? (Slot.at ino page) with
    | none => exact get_new c a fs m _ ino page 0 clock _ w S p L h (by omega) (by omega) hi hrd' hd' hk' hck hs
    | some s => exact get_hit c a fs m _ ino page 0 clock _ w S p L h (by omega) (by omega) hi hrd' hck s hs
  · exact get_err c a fs m _ ino page _ clock _ w S p L h (by omega) (by omega) hrd' (by rw [bne_iff_ne]; exact hr)

end Go.Proofs.YtkkmcnngpahfaaaGreatDoor

namespace Go.Proofs.YtkkmcnngpahfaaaGreatDoor
open Go.RowKit Go.Maps Go.WideMaps Go.Sort
set_option linter.unusedSimpArgs false
set_option linter.unusedVariables false

/-- A slot as the row of Slots bears it. -/
def sl (s : Slot) : List Value := [.int .i64 s.ino, .int .i64 s.page, .int .i64 (s.frame : Int)]
def sls (l : List Slot) : List Value := l.flatMap sl
theorem sls_append (a b : List Slot) : sls (a ++ b) = sls a ++ sls b := List.flatMap_append
theorem sls_one (s : Slot) : sls [s] = sl s := by simp [sls]
theorem sls_length (l : List Slot) : (sls l).length = l.length * 3 := by
  induction l with
  | nil => rfl
  | cons a l ih =>
    unfold sls at *
    rw [List.flatMap_cons, List.length_append, ih, List.length_cons]
    simp [sl]
    omega
theorem sls_get (l : List Slot) (k j : Nat) (hj : j < 3) {s : Slot} (hk : l[k]? = some s) : (sls l)[k * 3 + j]? = (sl s)[j]? := by
  induction l generalizing k with
  | nil => simp at hk
  | cons a l ih =>
    unfold sls at *
    rw [List.flatMap_cons]
    cases k with
    | zero =>
      simp only [List.getElem?_cons_zero, Option.some.injEq] at hk
      subst hk
      rw [List.getElem?_append_left (by simp [sl]; omega), Nat.zero_mul, Nat.zero_add]
    | succ k =>
      rw [List.getElem?_append_right (by simp [sl]; omega)]
      have e : (k + 1) * 3 + j - (sl a).length = k * 3 + j := by simp [sl]; omega
      rw [e]
      exact ih k (by simpa using hk)
theorem sls_one_cell (l : List Slot) : ∀ u ∈ sls l, u.oneCell' = true := by
  intro u hu
  obtain ⟨s, _, h⟩ := List.mem_flatMap.1 hu
  simp only [sl, List.mem_cons, List.not_mem_nil, or_false] at h
  rcases h with rfl | rfl | rfl <;> rfl

/-- A row of slots of the call's own. -/
def OwnQ (w : World) (base : Nat) (A : Option Addr) (cap : Nat) (l : List Slot) : Prop := w.ownsRow base 112 3 (.slice A l.length cap) l.length (sls l)
theorem slot_info : (Tryz.prog.info? 112).map (fun i => (i.zero, i.size, i.bytes)) = some (some (.agg #[.int .i64 0, .int .i64 0, .int .i64 0]), 3, 24) := by kernel_rfl
theorem OwnQ.nil (w : World) (base : Nat) : OwnQ w base none 0 [] := World.ownsRow_nil w base _ 3
theorem OwnQ.kept {w w' : World} {base : Nat} {A : Option Addr} {cap : Nat} {l : List Slot} {row : Option Nat} (h : OwnQ w base A cap l) (hg : w.grownBy w' row) (hne : A.map (·.block) = none ∨ A.map (·.block) ≠ row) : OwnQ w' base A cap l :=
  World.ownsRow.kept h hg (by cases A <;> simp_all [Value.ownBlock])
theorem OwnQ.below {w w' : World} {base B : Nat} {A : Option Addr} {cap : Nat} {l : List Slot} (h : OwnQ w base A cap l) (hb : Below B w w') (hB : w.heap.size ≤ B) : OwnQ w' base A cap l :=
  h.kept (row := none) ⟨hb.os, hb.tape, hb.output, hb.size, fun k hk _ => hb.block k (by omega)⟩ (by cases A <;> simp)
theorem OwnQ.form {w : World} {base : Nat} {A : Option Addr} {cap : Nat} {l : List Slot} (h : OwnQ w base A cap l) : (A = none ∧ l = [] ∧ cap = 0) ∨ ∃ g cur, A = some ⟨g, 0, none⟩ ∧ base ≤ g ∧ g < w.heap.size ∧ l.length ≤ cap ∧ w.heap[g]? = some (.cells cur 112 (0, 0)) ∧ cur.size = cap * 3 ∧ cur.toList.take (l.length * 3) = sls l := by
  rcases h.2 with ⟨h2, h3⟩ | ⟨g, cap', cur, h1, h2, h3, h4, h5, h6, h7⟩
  · injection h2 with h4 h5 h6
    exact .inl ⟨h4, List.eq_nil_of_length_eq_zero h3, h6⟩
  · injection h1 with e1 e2 e3
    subst e3
    exact .inr ⟨g, cur, e1, h2, (Array.getElem?_eq_some_iff.1 h3).1, h4, h3, h6, h7⟩
/-- The row's cells, as they are read. -/
theorem OwnQ.cell {w : World} {base g cap : Nat} {l : List Slot} (h : OwnQ w base (some ⟨g, 0, none⟩) cap l) {k j : Nat} (hj : j < 3) {s : Slot} (hk : l[k]? = some s) : w.cell? ⟨g, k * 3 + j, none⟩ = (sl s)[j]? := by
  have hk2 : k < l.length := (List.getElem?_eq_some_iff.1 hk).1
  rw [World.ownsRow.cellAt h (k * 3 + j) (by omega), sls_get l k j hj hk]

theorem app_slot {w : World} {ops : Array Oper} {rest : List Oper} {o : Oper} {a : Act} {Q : Exit → Act → World → Prop} (hgd : o.guard = none) (s x : Operand)
    (ho : o.op = .call { callee := .builtin .append, args := #[s, x], argTypes := #[109, 109] })
    (base : Nat) (A : Option Addr) (cap : Nat) (l : List Slot) (hs : a.eval s = .slice A l.length cap) (hown : OwnQ w base A cap l)
    (r : Slot) (b c : Nat) (hx : a.eval x = .slice (some ⟨b, 0, none⟩) 1 c) (hb : w.heap[b]? = some (.cells #[.int .i64 r.ino, .int .i64 r.page, .int .i64 (r.frame : Int)] 112 (0, 0)))
    (hfew : l.length < 1000000) (hbase : base ≤ w.heap.size)
    (h : ∀ g cap' w', OwnQ w' base (some ⟨g, 0, none⟩) cap' (l ++ [r]) → w.grownBy w' (A.map (·.block)) → (A.map (·.block) = some g ∨ g = w.heap.size) → g < w'.heap.size → wpList Tryz.prog ops Q rest (a.put o.dst (.slice (some ⟨g, 0, none⟩) (l.length + 1) cap')) w') :
    wpList Tryz.prog ops Q (o :: rest) a w := by
  obtain ⟨i0, hi0, hz0, hz1, hz2⟩ := info_parts slot_info
  refine wpList_append_lies w hgd s x 109 ho base 112 i0 _ 3 24 Tryz.underlying109 hi0 hz0 hz1 hz2 rfl (by omega) _ l.length (sls l) hs hown ⟨b, 0, none⟩ 1 c (sl r) hx rfl (World.news_of_block (cs := #[.int .i64 r.ino, .int .i64 r.page, .int .i64 (r.frame : Int)]) hb)
    (by rw [← sls_one]; exact sls_one_cell _) (by omega) (by unfold maxLen; omega) (by omega) hbase w.heap.size rfl ?_
  intro g cap' w' ho' hg hat hlt
  refine h g cap' w' ?_ ?_ ?_ hlt
  · unfold OwnQ
    rw [sls_append, sls_one, List.length_append]
    exact ho'
  · cases A <;> simpa [Value.ownBlock] using hg
  · cases A <;> simpa [Value.ownBlock] using hat

/-- What the sort is told of a slot: its numbers, within bounds. -/
def small (i : Int) : Int := i % 4611686018427387904
def sc (s : Slot) : List Value := [.int .i64 (small s.ino), .int .i64 (small s.page), .int .i64 (s.frame : Int)]
def cmpS (x y : Slot) : Int := if small x.ino = small y.ino then small x.page - small y.page else small x.ino - small y.ino
theorem small_in (i : Int) : 0 ≤ small i ∧ small i < 4611686018427387904 := ⟨Int.emod_nonneg _ (by decide), Int.emod_lt_of_pos _ (by decide)⟩

set_option maxRecDepth 100000 in
set_option maxHeartbeats 4000000 in
theorem cmp_ints (i p f j q g : Int) (hi : 0 ≤ i ∧ i < 4611686018427387904) (hp : 0 ≤ p ∧ p < 4611686018427387904) (hj : 0 ≤ j ∧ j < 4611686018427387904) (hq : 0 ≤ q ∧ q < 4611686018427387904) (W : World) :
    Calls Tryz.prog 118 #[.agg #[.int .i64 i, .int .i64 p, .int .i64 f], .agg #[.int .i64 j, .int .i64 q, .int .i64 g]] W
      fun e w' => e = .returned (.int .i64 (if i = j then p - q else i - j)) ∧ ∃ n os, w' = grow (W.drewN n) os := by
  by_cases h : i = j
  · subst h
    rw [if_pos rfl]
    have hw1 : IntKind.i64.wrap (p - q) = p - q := IntWalk.i64_in _ (by omega)
    go_enter Tryz.func118, Tryz.ntmps118
    go_wp2
    go_ret
    exact ⟨rfl, 0, _, by rw [alloc_eq_grow, alloc_eq_grow, grow_grow]; rfl⟩
  · rw [if_neg h]
    have hw1 : IntKind.i64.wrap (i - j) = i - j := IntWalk.i64_in _ (by omega)
    go_enter Tryz.func118, Tryz.ntmps118
    go_wp2
    go_ret
    exact ⟨rfl, 0, _, by rw [alloc_eq_grow, alloc_eq_grow, grow_grow]; rfl⟩

theorem cmp_any (x y : Slot) (W : World) : Calls Tryz.prog 118 #[.agg (sc x).toArray, .agg (sc y).toArray] W
    fun e w' => e = .returned (.int .i64 (cmpS x y)) ∧ ∃ n os, w' = grow (W.drewN n) os :=
  cmp_ints (small x.ino) (small x.page) x.frame (small y.ino) (small y.page) y.frame (small_in _) (small_in _) (small_in _) (small_in _) W

theorem cons_erase {α : Type} : ∀ {l : List α} {j : Nat} {a : α}, l[j]? = some a → l.Perm (a :: l.eraseIdx j)
  | [], _, _, h => by simp at h
  | x :: l, 0, a, h => by
    simp only [List.getElem?_cons_zero, Option.some.injEq] at h
    subst h
    exact List.Perm.refl _
  | x :: l, j + 1, a, h => by
    have ih := cons_erase (l := l) (j := j) (a := a) (by simpa using h)
    rw [List.eraseIdx_cons_succ]
    exact (List.Perm.cons x ih).trans (List.Perm.swap a x _)

/-- One slot less: what is left is that slot and the rest. -/
theorem left_perm {left : List Slot} (h : Sole left) {s : Slot} (hs : s ∈ left) : left.Perm (s :: left.filter fun x => !Slot.at s.ino s.page x) := by
  obtain ⟨j, hj⟩ := List.mem_iff_getElem?.1 hs
  rw [← erase_filter h hj]
  exact cons_erase hj

end Go.Proofs.YtkkmcnngpahfaaaGreatDoor

namespace Go.Proofs.YtkkmcnngpahfaaaGreatDoor
open Go.RowKit Go.Maps Go.WideMaps Go.Sort
set_option linter.unusedSimpArgs false
set_option linter.unusedVariables false

instance : Inhabited Slot := ⟨⟨0, 0, 0, 0⟩⟩
def Rising (l : List Slot) : Prop := l.Pairwise fun a b => a.ino < b.ino ∨ a.ino = b.ino ∧ a.page < b.page
def Small (l : List Slot) : Prop := ∀ s ∈ l, small s.ino = s.ino ∧ small s.page = s.page
theorem Small.sc {l : List Slot} (h : Small l) {s : Slot} (hs : s ∈ l) : sc s = sl s := by
  unfold Go.Proofs.YtkkmcnngpahfaaaGreatDoor.sc sl
  rw [(h s hs).1, (h s hs).2]
theorem flat_get {l : List Slot} (h : Small l) (t : Nat) (ht : t < l.length * 3) : (sls l)[t]? = some (flatK sc 3 l.toArray)[t]! := by
  rw [get_flatK _ _ _ _ (by simpa using ht)]
  have h3 : t / 3 < l.length := by omega
  have e : l.toArray[t / 3]! = l[t / 3] := by simp [h3]
  rw [e, h.sc (List.getElem_mem h3)]
  have e2 := sls_get l (t / 3) (t % 3) (by omega) (List.getElem?_eq_getElem h3)
  rw [show t / 3 * 3 + t % 3 = t by omega] at e2
  rw [e2]
  have : t % 3 < 3 := by omega
  generalize t % 3 = j at this ⊢
  match j, this with
  | 0, _ => rfl
  | 1, _ => rfl
  | 2, _ => rfl
theorem OwnQ.holds {w : World} {base g cap : Nat} {l : List Slot} (h : OwnQ w base (some ⟨g, 0, none⟩) cap l) (hs : Small l) : HoldsK sc 3 w g 0 l.toArray := fun j hj => by
  rcases h.form with ⟨h1, _⟩ | ⟨g', cur, h1, _, h2, h3, h4, h5, h6⟩
  · cases h1
  · injection h1 with h1
    injection h1 with h1
    subst h1
    have hj' : j < l.length * 3 := by simpa using hj
    have e1 := World.ownsRow.cellAt h j hj'
    rw [Nat.zero_add, e1]
    exact ⟨flat_get hs j hj', one_free h4 j⟩
/-- The world that the sort leaves: the row holds the new order. -/
theorem OwnQ.sorted {w : World} {base g cap n : Nat} {l : List Slot} {d : Array Slot} {os : Array Obj} (h : OwnQ w base (some ⟨g, 0, none⟩) cap l) (hs : Small d.toList) (hl : d.size = l.length) :
    OwnQ (sortWorldK sc 3 w g 0 n d os) base (some ⟨g, 0, none⟩) cap d.toList ∧ Below base w (sortWorldK sc 3 w g 0 n d os) := by
  rcases h.2 with ⟨h1, _⟩ | ⟨g', cap', cur, h1, hb, h3, h4, h5, h6, h7⟩
  · cases h1
  injection h1 with e1 e2 e3
  injection e1 with e1
  injection e1 with e1
  subst e1
  subst e3
  have hgw : g < w.heap.size := (Array.getElem?_eq_some_iff.1 h3).1
  have hheap : (sortWorldK sc 3 w g 0 n d os).heap = (w.heap.modify g (onCells (putCells id 0 (flatK sc 3 d)))) ++ os := rfl
  constructor
  · refine ⟨sls_length _, .inr ⟨g, cap, putCells id 0 (flatK sc 3 d) cur, by simp [hl], hb, ?_, by simpa [hl] using h4, h5, by simp [putCells, h6], ?_⟩⟩
    · rw [hheap, Array.getElem?_append_left (by simpa using hgw), Array.getElem?_modify, if_pos rfl, h3]
      rfl
    · apply List.ext_getElem?
      intro t
      have h4' : l.length * 3 ≤ cap * 3 := by omega
      by_cases ht : t < d.size * 3
      · rw [List.getElem?_take, if_pos (by simpa using ht), flat_get hs t (by simpa using ht)]
        have htc : t < cur.size := by omega
        simp [putCells, htc, ht]
      · rw [List.getElem?_take, if_neg (by simpa using ht), List.getElem?_eq_none (by rw [sls_length]; simpa using ht)]
  · refine ⟨rfl, rfl, rfl, by rw [hheap]; simp, fun b hb' => ?_⟩
    rw [hheap, Array.getElem?_append_left (by simp; omega), Array.getElem?_modify, if_neg (by omega)]

theorem cmp_neg (x y : Slot) : cmpS x y < 0 ↔ small x.ino < small y.ino ∨ small x.ino = small y.ino ∧ small x.page < small y.page := by
  unfold cmpS
  split <;> omega
theorem rising_of {l : List Slot} (hs : Small l) (hS : Sole l) (h : ∀ i j, (hij : i < j) → (hj : j < l.length) → ¬ cmpS (l[j]'hj) (l[i]'(by omega)) < 0) : Rising l := by
  unfold Rising
  rw [List.pairwise_iff_getElem]
  intro i j hi hj hij
  have h1 := h i j hij hj
  rw [cmp_neg] at h1
  have h2 := (List.pairwise_iff_getElem.1 hS) i j hi hj hij
  have h3 := hs _ (List.getElem_mem hi)
  have h4 := hs _ (List.getElem_mem hj)
  rw [h3.1, h3.2, h4.1, h4.2] at h1
  omega

end Go.Proofs.YtkkmcnngpahfaaaGreatDoor
