/- Frames and page tables in plain Lean: words in bytes, a pool, what is counted. No program. Page tables in plain Lean: leaves and their words, a tree of nodes; what is found, mapped and unmapped. No program. Page tables in plain Lean: how often frames are counted; a leaf laid, taken out; a node linked, pruned. No program. Page tables in plain Lean: a node linked, a node pruned; what is counted. No program. Page tables in plain Lean: every step keeps the counts. No program. Page tables in plain Lean: a leaf goes, and the nodes that are empty then. No program. What a table lists: its nodes and leaves, in order. Plain. Tables: what a visit tells, counted. Tables: the words of all nodes, counted; the nodes stand just where leaves lie below. -/
import Derived.Lib.Hide

namespace Go.Proofs.YtkkmcnngpahfaaaGreatDoor
set_option linter.unusedSimpArgs false
set_option linter.unusedVariables false

def upd {α : Type} (f : Nat → α) (i : Nat) (x : α) : Nat → α := fun j => if j = i then x else f j
theorem upd_same {α : Type} (f : Nat → α) (i : Nat) (x : α) : upd f i x i = x := by simp [upd]
theorem upd_ne {α : Type} (f : Nat → α) {i j : Nat} (x : α) (h : j ≠ i) : upd f i x j = f j := by simp [upd, h]
theorem upd_back {α : Type} (f : Nat → α) (i : Nat) (x : α) : upd (upd f i x) i (f i) = f := by
  funext j
  unfold upd
  split
  · rename_i h; rw [h]
  · rfl

/-! ### words in bytes -/
/-- The number that n bytes from o on say, the lowest first. -/
def leVal (d : Nat → Nat) (o : Nat) : Nat → Nat
  | 0 => 0
  | n + 1 => leVal d o n + d (o + n) * 256 ^ n
theorem leVal_lt {d : Nat → Nat} (hd : ∀ i, d i < 256) (o n : Nat) : leVal d o n < 256 ^ n := by
  induction n with
  | zero => simp [leVal]
  | succ n ih =>
    unfold leVal
    have h1 := hd (o + n)
    have h2 : d (o + n) * 256 ^ n ≤ 255 * 256 ^ n := Nat.mul_le_mul_right _ (by omega)
    rw [Nat.pow_succ]
    omega
theorem leVal_congr {d e : Nat → Nat} {o n : Nat} (h : ∀ i, i < n → d (o + i) = e (o + i)) : leVal d o n = leVal e o n := by
  induction n with
  | zero => rfl
  | succ n ih =>
    unfold leVal
    rw [ih (fun i hi => h i (by omega)), h n (by omega)]
theorem leVal_digits (x o : Nat) (d : Nat → Nat) (n : Nat) (h : ∀ i, i < n → d (o + i) = x / 256 ^ i % 256) : leVal d o n = x % 256 ^ n := by
  induction n with
  | zero => simp [leVal, Nat.mod_one]
  | succ n ih =>
    unfold leVal
    rw [ih (fun i hi => h i (by omega)), h n (by omega), Nat.pow_succ, Nat.mod_mul]
    rw [Nat.mul_comm]
theorem leVal_zero {d : Nat → Nat} {o n : Nat} : leVal d o n = 0 ↔ ∀ i, i < n → d (o + i) = 0 := by
  induction n with
  | zero => simp [leVal]
  | succ n ih =>
    unfold leVal
    have hp : 0 < 256 ^ n := Nat.pow_pos (by decide)
    constructor
    · intro h i hi
      have h1 : leVal d o n = 0 := by omega
      have h2 : d (o + n) * 256 ^ n = 0 := by omega
      have h3 : d (o + n) = 0 := by
        rcases Nat.mul_eq_zero.1 h2 with h | h
        · exact h
        · omega
      rcases Nat.lt_or_ge i n with h4 | h4
      · exact ih.1 h1 i h4
      · have : i = n := by omega
        rw [this]; exact h3
    · intro h
      rw [ih.2 (fun i hi => h i (by omega)), h n (by omega)]
      simp
/-- A node's word. -/
def word (d : Nat → Nat) (k : Nat) : Nat := leVal d (8 * k) 8
/-- A node's bytes with another word. -/
def setWord (d : Nat → Nat) (k x : Nat) : Nat → Nat := fun i => if 8 * k ≤ i ∧ i < 8 * k + 8 then x / 256 ^ (i - 8 * k) % 256 else d i
theorem setWord_lt {d : Nat → Nat} (hd : ∀ i, d i < 256) (k x i : Nat) : setWord d k x i < 256 := by
  unfold setWord
  split
  · exact Nat.mod_lt _ (by decide)
  · exact hd i
theorem word_setWord {d : Nat → Nat} {k j x : Nat} (hx : x < 18446744073709551616) : word (setWord d k x) j = if j = k then x else word d j := by
  unfold word
  split
  · rename_i h
    subst h
    rw [leVal_digits x (8 * j) _ 8 (fun i hi => by unfold setWord; rw [if_pos (by omega)]; congr 3; omega)]
    exact Nat.mod_eq_of_lt hx
  · rename_i h
    exact leVal_congr fun i hi => by
      unfold setWord
      rw [if_neg (by omega)]
theorem word_zero (k : Nat) : word (fun _ => 0) k = 0 := leVal_zero.2 fun _ _ => rfl
theorem words_zero {d : Nat → Nat} : (∀ i, i < 4096 → d i = 0) ↔ ∀ k, k < 512 → word d k = 0 := by
  constructor
  · intro h k hk
    exact leVal_zero.2 fun i hi => h _ (by omega)
  · intro h i hi
    have := leVal_zero.1 (h (i / 8) (by omega)) (i % 8) (by omega)
    rwa [show 8 * (i / 8) + i % 8 = i from by omega] at this
theorem word_lt {d : Nat → Nat} (hd : ∀ i, d i < 256) (k : Nat) : word d k < 18446744073709551616 := leVal_lt hd (8 * k) 8

/-! ### a pool -/
structure Pool where
  n : Nat
  cnt : Nat → Nat
  dat : Nat → Nat → Nat

/-- The free frame of the lowest number. -/
def Pool.lowest (p : Pool) : Option Nat := (List.range p.n).find? fun f => p.cnt f == 0
def Pool.takeAt (p : Pool) (f : Nat) : Pool := ⟨p.n, upd p.cnt f 1, upd p.dat f (fun _ => 0)⟩
def Pool.up (p : Pool) (f : Nat) : Pool := ⟨p.n, upd p.cnt f (p.cnt f + 1), p.dat⟩
def Pool.down (p : Pool) (f : Nat) : Pool := ⟨p.n, upd p.cnt f (p.cnt f - 1), p.dat⟩
def Pool.store (p : Pool) (f : Nat) (d : Nat → Nat) : Pool := ⟨p.n, p.cnt, upd p.dat f d⟩
/-- How many are free. -/
def freeTo (c : Nat → Nat) : Nat → Nat
  | 0 => 0
  | n + 1 => freeTo c n + if c n = 0 then 1 else 0
def Pool.left (p : Pool) : Nat := freeTo p.cnt p.n
theorem freeTo_le (c : Nat → Nat) (n : Nat) : freeTo c n ≤ n := by
  induction n with
  | zero => simp [freeTo]
  | succ n ih => unfold freeTo; split <;> omega
theorem freeTo_congr {c e : Nat → Nat} {n : Nat} (h : ∀ i, i < n → (c i = 0 ↔ e i = 0)) : freeTo c n = freeTo e n := by
  induction n with
  | zero => rfl
  | succ n ih =>
    unfold freeTo
    rw [ih (fun i hi => h i (by omega))]
    have := h n (by omega)
    split <;> split <;> simp_all
theorem freeTo_upd {c : Nat → Nat} {n f x : Nat} (hf : f < n) : freeTo (upd c f x) n + (if c f = 0 then 1 else 0) = freeTo c n + (if x = 0 then 1 else 0) := by
  induction n with
  | zero => omega
  | succ n ih =>
    unfold freeTo
    by_cases h : f = n
    · subst h
      rw [upd_same, freeTo_congr (c := upd c f x) (e := c) (fun i hi => by rw [upd_ne _ _ (by omega)])]
      omega
    · have := ih (by omega)
      rw [upd_ne _ _ (fun e => h e.symm)]
      omega
theorem freeTo_zero {c : Nat → Nat} {n : Nat} : freeTo c n = 0 ↔ ∀ i, i < n → c i ≠ 0 := by
  induction n with
  | zero => simp [freeTo]
  | succ n ih =>
    unfold freeTo
    constructor
    · intro h i hi
      have h1 : freeTo c n = 0 := by omega
      rcases Nat.lt_or_ge i n with h2 | h2
      · exact ih.1 h1 i h2
      · have : i = n := by omega
        subst this
        intro h3
        rw [if_pos h3] at h
        omega
    · intro h
      rw [ih.2 (fun i hi => h i (by omega)), if_neg (h n (by omega))]

theorem lowest_some {p : Pool} {f : Nat} (h : p.lowest = some f) : f < p.n ∧ p.cnt f = 0 ∧ ∀ g, g < f → p.cnt g ≠ 0 := by
  unfold Pool.lowest at h
  rw [List.find?_range_eq_some] at h
  obtain ⟨h1, h2, h3⟩ := h
  refine ⟨by simpa using h2, by simpa using h1, fun g hg h4 => ?_⟩
  have := h3 g hg
  simp [h4] at this
theorem lowest_none {p : Pool} (h : p.lowest = none) : ∀ f, f < p.n → p.cnt f ≠ 0 := by
  intro f hf h0
  unfold Pool.lowest at h
  rw [List.find?_eq_none] at h
  have := h f (List.mem_range.2 hf)
  simp [h0] at this
theorem lowest_is {p : Pool} {f : Nat} (h1 : f < p.n) (h2 : p.cnt f = 0) (h3 : ∀ g, g < f → p.cnt g ≠ 0) : p.lowest = some f := by
  unfold Pool.lowest
  rw [List.find?_range_eq_some]
  exact ⟨by simpa using h2, by simpa using h1, fun g hg => by simpa using h3 g hg⟩
theorem lowest_not {p : Pool} (h : ∀ f, f < p.n → p.cnt f ≠ 0) : p.lowest = none := by
  unfold Pool.lowest
  rw [List.find?_eq_none]
  intro f hf
  simpa using h f (List.mem_range.1 hf)

end Go.Proofs.YtkkmcnngpahfaaaGreatDoor

namespace Go.Proofs.YtkkmcnngpahfaaaGreatDoor
set_option linter.unusedSimpArgs false
set_option linter.unusedVariables false

structure Leaf where
  frame : Nat
  prot : Nat
  copy : Bool
deriving DecidableEq
def Leaf.pack (l : Leaf) : Nat := l.frame * 4096 + l.prot * 2 + 1 + (if l.copy = true then 16 else 0)
def unpack (x : Nat) : Leaf := ⟨x / 4096, x / 2 % 8, x / 16 % 2 == 1⟩
theorem unpack_pack (l : Leaf) (h : l.prot ≤ 7) : unpack l.pack = l := by
  obtain ⟨f, p, c⟩ := l
  simp only at h
  unfold unpack Leaf.pack
  cases c
  · simp only [Leaf.mk.injEq]
    refine ⟨by simp; omega, by simp; omega, ?_⟩
    rw [beq_eq_false_iff_ne]
    simp; omega
  · simp only [Leaf.mk.injEq]
    refine ⟨by simp; omega, by simp; omega, ?_⟩
    rw [beq_iff_eq]
    simp; omega
theorem pack_odd (l : Leaf) : l.pack % 2 = 1 := by
  unfold Leaf.pack
  split <;> omega
theorem pack_lt (l : Leaf) (h : l.prot ≤ 7) (hf : l.frame < 1024) : l.pack < 4194304 := by
  unfold Leaf.pack
  split <;> omega

/-- A table: the nodes' frames by level (4 is the root's) and by part of the pages, the leaves by page. -/
structure Tab where
  nd : Nat → Nat → Option Nat
  lf : Nat → Option Leaf

/-- What a node's word must say. -/
def Tab.word (t : Tab) (lv part k : Nat) : Nat :=
  if lv = 1 then (match t.lf (part * 512 + k) with | some l => l.pack | none => 0)
  else match t.nd (lv - 1) (part * 512 + k) with | some f => f * 4096 + 1 | none => 0

/-- The nodes lie as a tree; each word says what it must. -/
structure Tab.Ok (p : Pool) (t : Tab) : Prop where
  root : (t.nd 4 0).isSome = true
  only : ∀ part f, t.nd 4 part = some f → part = 0
  level : ∀ lv part f, t.nd lv part = some f → 1 ≤ lv ∧ lv ≤ 4
  above : ∀ lv part f, t.nd lv part = some f → lv < 4 → (t.nd (lv + 1) (part / 512)).isSome = true
  leaf : ∀ pg l, t.lf pg = some l → (t.nd 1 (pg / 512)).isSome = true ∧ l.prot ≤ 7 ∧ l.frame < p.n
  inj : ∀ l1 p1 l2 p2 f, t.nd l1 p1 = some f → t.nd l2 p2 = some f → l1 = l2 ∧ p1 = p2
  live : ∀ lv part f, t.nd lv part = some f → f < p.n ∧ 0 < p.cnt f
  words : ∀ lv part f, t.nd lv part = some f → ∀ k, k < 512 → Go.Proofs.YtkkmcnngpahfaaaGreatDoor.word (p.dat f) k = t.word lv part k
  full : ∀ lv part f, t.nd lv part = some f → lv < 4 → ∃ k, k < 512 ∧ t.word lv part k ≠ 0
  few : p.n ≤ 1024

/-- The part of a page's address that a node of a level is of, and the word's number there. -/
def part (pg lv : Nat) : Nat := pg / 512 ^ lv
def num (pg lv : Nat) : Nat := pg / 512 ^ (lv - 1) % 512
theorem part_num (pg lv : Nat) (h : 1 ≤ lv) : part pg lv * 512 + num pg lv = part pg (lv - 1) := by
  unfold part num
  obtain ⟨m, rfl⟩ : ∃ m, lv = m + 1 := ⟨lv - 1, by omega⟩
  rw [Nat.pow_succ, ← Nat.div_div_eq_div_mul, Nat.add_sub_cancel]
  omega
theorem part_zero (pg : Nat) : part pg 0 = pg := by simp [part]
theorem part_up (pg lv : Nat) : part pg lv / 512 = part pg (lv + 1) := by
  unfold part
  rw [Nat.pow_succ, ← Nat.div_div_eq_div_mul]
theorem num_lt (pg lv : Nat) : num pg lv < 512 := Nat.mod_lt _ (by decide)
theorem part_four (pg : Nat) (h : pg < 68719476736) : part pg 4 = 0 := by
  unfold part
  exact Nat.div_eq_of_lt (by simpa using h)

/-- The word on a page's way. -/
def Tab.on (t : Tab) (pg lv : Nat) : Nat := t.word lv (part pg lv) (num pg lv)
theorem Tab.on_one (t : Tab) (pg : Nat) : t.on pg 1 = match t.lf pg with | some l => l.pack | none => 0 := by
  unfold Tab.on Tab.word
  rw [if_pos rfl, part_num pg 1 (Nat.le_refl _), part_zero]
theorem Tab.on_more (t : Tab) (pg lv : Nat) (h : 2 ≤ lv) : t.on pg lv = match t.nd (lv - 1) (part pg (lv - 1)) with | some f => f * 4096 + 1 | none => 0 := by
  unfold Tab.on Tab.word
  rw [if_neg (by omega), part_num pg lv (by omega)]

theorem isSome_of {α : Type} {o : Option α} (h : o.isSome = true) : ∃ x, o = some x := Option.isSome_iff_exists.1 h

/-- Where a node lies, there lie all above it. -/
theorem Tab.Ok.ups {p : Pool} {t : Tab} (h : t.Ok p) {pg lv : Nat} (hs : (t.nd lv (part pg lv)).isSome = true) : ∀ m, lv ≤ m → m ≤ 4 → (t.nd m (part pg m)).isSome = true := by
  have key : ∀ d, lv + d ≤ 4 → (t.nd (lv + d) (part pg (lv + d))).isSome = true := by
    intro d
    induction d with
    | zero => intro _; exact hs
    | succ d ih =>
      intro h4
      obtain ⟨f, hf⟩ := isSome_of (ih (by omega))
      have := h.above (lv + d) _ f hf (by omega)
      rwa [part_up] at this
  intro m hm h4
  have := key (m - lv) (by omega)
  rwa [show lv + (m - lv) = m from by omega] at this
theorem Tab.Ok.leafUp {p : Pool} {t : Tab} (h : t.Ok p) {pg : Nat} {l : Leaf} (hl : t.lf pg = some l) (m : Nat) (h1 : 1 ≤ m) (h4 : m ≤ 4) : (t.nd m (part pg m)).isSome = true := by
  have := (h.leaf pg l hl).1
  have e : pg / 512 = part pg 1 := by simp [part]
  rw [e] at this
  exact h.ups this m h1 h4
/-- A page that has no node at a level has no leaf. -/
theorem Tab.Ok.noLeaf {p : Pool} {t : Tab} (h : t.Ok p) {pg lv : Nat} (h1 : 1 ≤ lv) (h4 : lv ≤ 4) (hn : t.nd lv (part pg lv) = none) : t.lf pg = none := by
  cases hl : t.lf pg with
  | none => rfl
  | some l =>
    have := h.leafUp hl lv h1 h4
    rw [hn] at this
    simp at this
theorem Tab.Ok.rootPage {p : Pool} {t : Tab} (h : t.Ok p) {pg : Nat} {l : Leaf} (hl : t.lf pg = some l) : pg < 68719476736 := by
  obtain ⟨f, hf⟩ := isSome_of (h.leafUp hl 4 (by omega) (by omega))
  have := h.only _ f hf
  unfold part at this
  have h2 : (512 : Nat) ^ 4 = 68719476736 := by decide
  rw [h2] at this
  omega

end Go.Proofs.YtkkmcnngpahfaaaGreatDoor

namespace Go.Proofs.YtkkmcnngpahfaaaGreatDoor
set_option linter.unusedSimpArgs false
set_option linter.unusedVariables false

/-! ### counting -/
def cntTo (q : Nat → Bool) : Nat → Nat
  | 0 => 0
  | n + 1 => cntTo q n + if q n = true then 1 else 0
theorem cntTo_congr {q r : Nat → Bool} {n : Nat} (h : ∀ i, i < n → q i = r i) : cntTo q n = cntTo r n := by
  induction n with
  | zero => rfl
  | succ n ih => unfold cntTo; rw [ih (fun i hi => h i (by omega)), h n (by omega)]
theorem cntTo_upd {q r : Nat → Bool} {n i : Nat} (hi : i < n) (h : ∀ j, j ≠ i → q j = r j) : cntTo r n + (if q i = true then 1 else 0) = cntTo q n + (if r i = true then 1 else 0) := by
  induction n with
  | zero => omega
  | succ n ih =>
    unfold cntTo
    by_cases e : i = n
    · subst e
      rw [cntTo_congr (q := q) (r := r) (fun j hj => h j (by omega))]
      omega
    · have := ih (by omega)
      rw [h n (fun e' => e e'.symm)]
      omega
theorem cntTo_zero {q : Nat → Bool} {n : Nat} : cntTo q n = 0 ↔ ∀ i, i < n → q i = false := by
  induction n with
  | zero => simp [cntTo]
  | succ n ih =>
    unfold cntTo
    constructor
    · intro h i hi
      rcases Nat.lt_or_ge i n with h2 | h2
      · exact ih.1 (by omega) i h2
      · have : i = n := by omega
        subst this
        cases hq : q i with
        | false => rfl
        | true => rw [if_pos hq] at h; omega
    · intro h
      rw [ih.2 (fun i hi => h i (by omega)), h n (by omega)]
      simp
theorem cntTo_pos {q : Nat → Bool} {n i : Nat} (hi : i < n) (h : q i = true) : 0 < cntTo q n := by
  rcases Nat.eq_zero_or_pos (cntTo q n) with h0 | h0
  · have := cntTo_zero.1 h0 i hi
    rw [h] at this
    cases this
  · exact h0

/-- How many pages there are. -/
def pagesN : Nat := 68719476736
def leafIs (t : Tab) (f : Nat) : Nat → Bool := fun pg => match t.lf pg with | some l => l.frame == f | none => false
def leafCnt (t : Tab) (f : Nat) : Nat := cntTo (leafIs t f) pagesN
def isNode (t : Tab) (f : Nat) : Prop := ∃ lv part, t.nd lv part = some f
open Classical in
noncomputable def nodeCnt (t : Tab) (f : Nat) : Nat := if isNode t f then 1 else 0
theorem nodeCnt_yes {t : Tab} {f : Nat} (h : isNode t f) : nodeCnt t f = 1 := by unfold nodeCnt; rw [if_pos h]
theorem nodeCnt_no {t : Tab} {f : Nat} (h : ¬ isNode t f) : nodeCnt t f = 0 := by unfold nodeCnt; rw [if_neg h]
theorem nodeCnt_congr {t t' : Tab} {f : Nat} (h : isNode t f ↔ isNode t' f) : nodeCnt t f = nodeCnt t' f := by
  unfold nodeCnt
  by_cases h1 : isNode t f
  · rw [if_pos h1, if_pos (h.1 h1)]
  · rw [if_neg h1, if_neg (fun e => h1 (h.2 e))]

/-- A tree in which the node of a page at one level may be without words. -/
structure Tab.But (p : Pool) (t : Tab) (pg lv0 : Nat) : Prop where
  root : (t.nd 4 0).isSome = true
  only : ∀ part f, t.nd 4 part = some f → part = 0
  level : ∀ lv part f, t.nd lv part = some f → 1 ≤ lv ∧ lv ≤ 4
  above : ∀ lv part f, t.nd lv part = some f → lv < 4 → (t.nd (lv + 1) (part / 512)).isSome = true
  leaf : ∀ pg l, t.lf pg = some l → (t.nd 1 (pg / 512)).isSome = true ∧ l.prot ≤ 7 ∧ l.frame < p.n
  inj : ∀ l1 p1 l2 p2 f, t.nd l1 p1 = some f → t.nd l2 p2 = some f → l1 = l2 ∧ p1 = p2
  words : ∀ lv part f, t.nd lv part = some f → f < p.n ∧ ∀ k, k < 512 → Go.Proofs.YtkkmcnngpahfaaaGreatDoor.word (p.dat f) k = t.word lv part k
  full : ∀ lv part f, t.nd lv part = some f → lv < 4 → ¬ (lv = lv0 ∧ part = Go.Proofs.YtkkmcnngpahfaaaGreatDoor.part pg lv0) → ∃ k, k < 512 ∧ t.word lv part k ≠ 0
  few : p.n ≤ 1024

/-- A tree, and each frame counted: by the leaves, as a node, and as often as rest says. -/
structure Tab.Good (p : Pool) (t : Tab) (rest : Nat → Nat) (pg lv0 : Nat) : Prop where
  but : t.But p pg lv0
  cnt : ∀ f, f < p.n → p.cnt f = leafCnt t f + nodeCnt t f + rest f

theorem Tab.Good.node {p : Pool} {t : Tab} {rest : Nat → Nat} {pg lv0 lv part f : Nat} (h : t.Good p rest pg lv0) (hf : t.nd lv part = some f) : f < p.n ∧ 0 < p.cnt f := by
  have h1 := (h.but.words lv part f hf).1
  have h2 := h.cnt f h1
  rw [nodeCnt_yes ⟨lv, part, hf⟩] at h2
  exact ⟨h1, by omega⟩
theorem Tab.Good.ok {p : Pool} {t : Tab} {rest : Nat → Nat} {pg : Nat} (h : t.Good p rest pg 4) : t.Ok p :=
  ⟨h.but.root, h.but.only, h.but.level, h.but.above, h.but.leaf, h.but.inj, fun lv part f hf => h.node hf, fun lv part f hf => (h.but.words lv part f hf).2, fun lv part f hf hl => h.but.full lv part f hf hl (fun e => by omega), h.but.few⟩
theorem Tab.But.any {p : Pool} {t : Tab} {pg : Nat} (h : t.But p pg 4) (pg' lv0 : Nat) : t.But p pg' lv0 :=
  ⟨h.root, h.only, h.level, h.above, h.leaf, h.inj, h.words, fun lv part f hf hl _ => h.full lv part f hf hl (fun e => by omega), h.few⟩
/-- A node that may be without words has one: none may. -/
theorem Tab.But.whole {p : Pool} {t : Tab} {pg lv0 : Nat} (h : t.But p pg lv0) (hw : (t.nd lv0 (Go.Proofs.YtkkmcnngpahfaaaGreatDoor.part pg lv0)).isSome = true → ∃ k, k < 512 ∧ t.word lv0 (Go.Proofs.YtkkmcnngpahfaaaGreatDoor.part pg lv0) k ≠ 0) (pg' : Nat) : t.But p pg' 4 :=
  ⟨h.root, h.only, h.level, h.above, h.leaf, h.inj, h.words, fun lv part f hf hl _ => by
    by_cases e : lv = lv0 ∧ part = Go.Proofs.YtkkmcnngpahfaaaGreatDoor.part pg lv0
    · obtain ⟨rfl, rfl⟩ := e
      exact hw (by rw [hf]; rfl)
    · exact h.full lv part f hf hl e, h.few⟩

/-! ### a leaf turned -/
def Tab.lay (t : Tab) (pg : Nat) (o : Option Leaf) : Tab := ⟨t.nd, upd t.lf pg o⟩
def leafWord : Option Leaf → Nat
  | some l => l.pack
  | none => 0
theorem Tab.lay_word (t : Tab) (pg : Nat) (o : Option Leaf) (lv q k : Nat) (hk : k < 512) :
    (t.lay pg o).word lv q k = if lv = 1 ∧ q = part pg 1 ∧ k = num pg 1 then leafWord o else t.word lv q k := by
  unfold Tab.word Tab.lay
  by_cases h1 : lv = 1
  · subst h1
    rw [if_pos rfl, if_pos rfl]
    have hp : part pg 1 * 512 + num pg 1 = pg := by rw [part_num pg 1 (Nat.le_refl _), part_zero]
    have hn := num_lt pg 1
    by_cases h2 : q = part pg 1 ∧ k = num pg 1
    · rw [if_pos ⟨rfl, h2⟩, h2.1, h2.2, hp]
      simp only [upd_same]
      cases o <;> rfl
    · rw [if_neg (fun e => h2 e.2)]
      have : q * 512 + k ≠ pg := by
        intro e
        apply h2
        constructor <;> omega
      simp only [upd_ne _ _ this]
  · rw [if_neg h1, if_neg h1, if_neg (fun e => h1 e.1)]
theorem leafCnt_lay {t : Tab} {pg : Nat} (hpg : pg < pagesN) (o : Option Leaf) (f : Nat) :
    leafCnt (t.lay pg o) f + (if leafIs t f pg = true then 1 else 0) = leafCnt t f + (match o with | some l => if l.frame = f then 1 else 0 | none => 0) := by
  unfold leafCnt
  have := cntTo_upd (q := leafIs t f) (r := leafIs (t.lay pg o) f) hpg (fun j hj => by unfold leafIs Tab.lay; simp only [upd_ne _ _ hj])
  rw [this]
  congr 1
  unfold leafIs Tab.lay
  simp only [upd_same]
  cases o with
  | none => rfl
  | some l => simp
theorem nodeCnt_lay (t : Tab) (pg : Nat) (o : Option Leaf) (f : Nat) : nodeCnt (t.lay pg o) f = nodeCnt t f := nodeCnt_congr Iff.rfl

/-- A leaf is laid where its node lies, in place of whatever was there, and the node's word is written. -/
theorem Tab.But.lay {p : Pool} {t : Tab} {pg lv0 g : Nat} (h : t.But p pg lv0) (hlv : lv0 = 4 ∨ lv0 = 1) (hg : t.nd 1 (part pg 1) = some g) (o : Option Leaf) (ho : ∀ l, o = some l → l.prot ≤ 7 ∧ l.frame < p.n) :
    (t.lay pg o).But (p.store g (setWord (p.dat g) (num pg 1) (leafWord o))) pg (match o with | some _ => 4 | none => 1) := by
  refine ⟨h.root, h.only, h.level, h.above, fun q l hq => ?_, h.inj, fun lv q f hf => ?_, fun lv q f hf hl hne => ?_, h.few⟩
  · by_cases e : q = pg
    · subst e
      simp only [Tab.lay, upd_same] at hq
      have e1 : q / 512 = part q 1 := by simp [part]
      refine ⟨?_, ho l hq⟩
      show (t.nd 1 (q / 512)).isSome = true
      rw [e1, hg]; rfl
    · simp only [Tab.lay, upd_ne _ _ e] at hq
      exact h.leaf q l hq
  · have hf' : t.nd lv q = some f := hf
    refine ⟨(h.words lv q f hf').1, fun k hk => ?_⟩
    rw [Tab.lay_word t pg o lv q k hk]
    have hx : leafWord o < 18446744073709551616 := by
      cases o with
      | none => decide
      | some l =>
        have := ho l rfl
        have := pack_lt l this.1 (by have := h.few; omega)
        simp only [leafWord]
        omega
    by_cases e : f = g
    · subst e
      obtain ⟨rfl, rfl⟩ := h.inj _ _ _ _ _ hf' hg
      simp only [Pool.store, upd_same]
      rw [word_setWord hx]
      by_cases e2 : k = num pg 1
      · rw [if_pos e2, if_pos (by simp [e2])]
      · rw [if_neg e2, if_neg (fun e => e2 e.2.2)]
        exact (h.words _ _ _ hf').2 k hk
    · simp only [Pool.store, upd_ne _ _ e]
      rw [if_neg (fun e2 => e (by
        obtain ⟨rfl, rfl, _⟩ := e2
        rw [hg] at hf'
        injection hf' with e3
        exact e3.symm))]
      exact (h.words _ _ _ hf').2 k hk
  · have hf' : t.nd lv q = some f := hf
    by_cases e : lv = 1 ∧ q = part pg 1
    · obtain ⟨rfl, rfl⟩ := e
      cases o with
      | none => exact (hne ⟨rfl, rfl⟩).elim
      | some l =>
        refine ⟨num pg 1, num_lt pg 1, ?_⟩
        rw [Tab.lay_word t pg _ 1 _ _ (num_lt pg 1), if_pos ⟨rfl, rfl, rfl⟩]
        have := pack_odd l
        show l.pack ≠ 0
        omega
    · obtain ⟨k, hk, hw⟩ := h.full lv q f hf' hl (fun e2 => by
        rcases hlv with rfl | rfl
        · omega
        · exact e e2)
      refine ⟨k, hk, ?_⟩
      rw [Tab.lay_word t pg o lv q k hk, if_neg (fun e2 => e ⟨e2.1, e2.2.1⟩)]
      exact hw

end Go.Proofs.YtkkmcnngpahfaaaGreatDoor

namespace Go.Proofs.YtkkmcnngpahfaaaGreatDoor
set_option linter.unusedSimpArgs false
set_option linter.unusedVariables false

/-- A node is there, or is not. -/
def Tab.put (t : Tab) (lv q : Nat) (o : Option Nat) : Tab := ⟨upd t.nd lv (upd (t.nd lv) q o), t.lf⟩
def nodeWord : Option Nat → Nat
  | some f => f * 4096 + 1
  | none => 0
theorem Tab.put_at (t : Tab) (lv q : Nat) (o : Option Nat) : (t.put lv q o).nd lv q = o := by simp [Tab.put, upd_same]
theorem Tab.put_ne (t : Tab) (lv q : Nat) (o : Option Nat) {lv' q' : Nat} (h : ¬ (lv' = lv ∧ q' = q)) : (t.put lv q o).nd lv' q' = t.nd lv' q' := by
  unfold Tab.put
  by_cases h1 : lv' = lv
  · subst h1
    simp only [upd_same]
    exact upd_ne _ _ (fun e => h ⟨rfl, e⟩)
  · simp only [upd_ne _ _ h1]
theorem Tab.put_word (t : Tab) {lv : Nat} (hlv : 1 ≤ lv) (pg : Nat) (o : Option Nat) (lv' q k : Nat) (hk : k < 512) :
    (t.put lv (part pg lv) o).word lv' q k = if lv' = lv + 1 ∧ q = part pg (lv + 1) ∧ k = num pg (lv + 1) then nodeWord o else t.word lv' q k := by
  have hp : part pg (lv + 1) * 512 + num pg (lv + 1) = part pg lv := by
    have := part_num pg (lv + 1) (by omega)
    simpa using this
  have hn := num_lt pg (lv + 1)
  unfold Tab.word
  by_cases h1 : lv' = 1
  · subst h1
    rw [if_pos rfl, if_pos rfl, if_neg (by omega)]
    rfl
  · rw [if_neg h1, if_neg h1]
    by_cases h2 : lv' = lv + 1 ∧ q = part pg (lv + 1) ∧ k = num pg (lv + 1)
    · rw [if_pos h2]
      obtain ⟨rfl, rfl, rfl⟩ := h2
      rw [hp, Nat.add_sub_cancel, Tab.put_at]
      cases o <;> rfl
    · rw [if_neg h2, Tab.put_ne]
      intro e
      apply h2
      refine ⟨by omega, ?_, ?_⟩ <;> omega

theorem nodeWord_lt {o : Option Nat} (h : ∀ f, o = some f → f < 1024) : nodeWord o < 18446744073709551616 := by
  cases o with
  | none => decide
  | some f => have := h f rfl; simp only [nodeWord]; omega

/-- Below what is no node there is nothing. -/
theorem Tab.But.bare {p : Pool} {t : Tab} {pg lv0 lv q : Nat} (h : t.But p pg lv0) (hn : t.nd lv q = none) (hlv : 1 ≤ lv) (hl4 : lv ≤ 4) (k : Nat) (hk : k < 512) : t.word lv q k = 0 := by
  unfold Tab.word
  by_cases h1 : lv = 1
  · subst h1
    rw [if_pos rfl]
    cases hl : t.lf (q * 512 + k) with
    | none => rfl
    | some l =>
      have := (h.leaf _ l hl).1
      rw [show (q * 512 + k) / 512 = q from by omega, hn] at this
      cases this
  · rw [if_neg h1]
    cases hf : t.nd (lv - 1) (q * 512 + k) with
    | none => rfl
    | some f =>
      have := h.above _ _ f hf (by omega)
      rw [show lv - 1 + 1 = lv from by omega, show (q * 512 + k) / 512 = q from by omega, hn] at this
      cases this
/-- A node without words has nothing below it. -/
theorem Tab.clear {t : Tab} {lv q : Nat} (hlv : 2 ≤ lv) (hz : ∀ k, k < 512 → t.word lv q k = 0) {q' : Nat} (hq : q' / 512 = q) : t.nd (lv - 1) q' = none := by
  cases hf : t.nd (lv - 1) q' with
  | none => rfl
  | some f =>
    have := hz (q' % 512) (Nat.mod_lt _ (by decide))
    unfold Tab.word at this
    rw [if_neg (by omega), show q * 512 + q' % 512 = q' from by omega, hf] at this
    simp at this
theorem Tab.clear1 {t : Tab} {q : Nat} (hz : ∀ k, k < 512 → t.word 1 q k = 0) {q' : Nat} (hq : q' / 512 = q) : t.lf q' = none := by
  cases hf : t.lf q' with
  | none => rfl
  | some l =>
    have := hz (q' % 512) (Nat.mod_lt _ (by decide))
    unfold Tab.word at this
    rw [if_pos rfl, show q * 512 + q' % 512 = q' from by omega, hf] at this
    have := pack_odd l
    simp at *
    omega

/-- A fresh frame becomes a node. -/
theorem Tab.But.link {p : Pool} {t : Tab} {pg lv0 lv g f : Nat} (h : t.But p pg lv0) (h1 : 1 ≤ lv) (h3 : lv ≤ 3) (hlv : lv0 = 4 ∨ lv0 = lv + 1) (hn : t.nd lv (part pg lv) = none) (hg : t.nd (lv + 1) (part pg (lv + 1)) = some g)
    (hf : f < p.n) (hnew : ¬ isNode t f) (hz : p.dat f = fun _ => 0) :
    (t.put lv (part pg lv) (some f)).But (p.store g (setWord (p.dat g) (num pg (lv + 1)) (nodeWord (some f)))) pg lv := by
  have hfew := h.few
  have hgf : g ≠ f := fun e => hnew ⟨lv + 1, part pg (lv + 1), by rw [hg, e]⟩
  have hx : nodeWord (some f) < 18446744073709551616 := nodeWord_lt (fun f' e => by injection e with e; omega)
  refine ⟨?_, fun q x hq => ?_, fun l q x hq => ?_, fun l q x hq hl => ?_, fun q l hq => ?_, fun l1 p1 l2 p2 x hx1 hx2 => ?_, fun l q x hq => ?_, fun l q x hq hl hne => ?_, h.few⟩
  · rw [Tab.put_ne _ _ _ _ (by omega)]
    exact h.root
  · rw [Tab.put_ne _ _ _ _ (by omega)] at hq
    exact h.only q x hq
  · by_cases e : l = lv ∧ q = part pg lv
    · omega
    · rw [Tab.put_ne _ _ _ _ e] at hq
      exact h.level l q x hq
  · by_cases e : l = lv ∧ q = part pg lv
    · obtain ⟨rfl, rfl⟩ := e
      rw [part_up, Tab.put_ne _ _ _ _ (by omega), hg]
      rfl
    · rw [Tab.put_ne _ _ _ _ e] at hq
      have := h.above l q x hq hl
      by_cases e2 : l + 1 = lv ∧ q / 512 = part pg lv
      · rw [e2.1, e2.2, Tab.put_at]; rfl
      · rw [Tab.put_ne _ _ _ _ e2]; exact this
  · have := h.leaf q l hq
    refine ⟨?_, this.2⟩
    by_cases e2 : 1 = lv ∧ q / 512 = part pg lv
    · rw [e2.2]
      obtain ⟨rfl, _⟩ := e2
      rw [Tab.put_at]; rfl
    · rw [Tab.put_ne _ _ _ _ e2]; exact this.1
  · by_cases e1 : l1 = lv ∧ p1 = part pg lv
    · by_cases e2 : l2 = lv ∧ p2 = part pg lv
      · omega
      · obtain ⟨rfl, rfl⟩ := e1
        rw [Tab.put_at] at hx1
        rw [Tab.put_ne _ _ _ _ e2] at hx2
        injection hx1 with hx1
        subst hx1
        exact absurd ⟨_, _, hx2⟩ hnew
    · rw [Tab.put_ne _ _ _ _ e1] at hx1
      by_cases e2 : l2 = lv ∧ p2 = part pg lv
      · obtain ⟨rfl, rfl⟩ := e2
        rw [Tab.put_at] at hx2
        injection hx2 with hx2
        subst hx2
        exact absurd ⟨_, _, hx1⟩ hnew
      · rw [Tab.put_ne _ _ _ _ e2] at hx2
        exact h.inj _ _ _ _ _ hx1 hx2
  · by_cases e : l = lv ∧ q = part pg lv
    · obtain ⟨rfl, rfl⟩ := e
      rw [Tab.put_at] at hq
      injection hq with hq
      subst hq
      refine ⟨hf, fun k hk => ?_⟩
      rw [Tab.put_word t h1 pg _ _ _ k hk, if_neg (by omega), h.bare hn h1 (by omega) k hk]
      simp only [Pool.store, upd_ne _ _ hgf.symm]
      rw [hz]
      exact word_zero k
    · rw [Tab.put_ne _ _ _ _ e] at hq
      obtain ⟨w1, w2⟩ := h.words l q x hq
      refine ⟨w1, fun k hk => ?_⟩
      rw [Tab.put_word t h1 pg _ _ _ k hk]
      by_cases ex : x = g
      · subst ex
        obtain ⟨rfl, rfl⟩ := h.inj _ _ _ _ _ hq hg
        simp only [Pool.store, upd_same]
        rw [word_setWord hx]
        by_cases e2 : k = num pg (lv + 1)
        · rw [if_pos e2, if_pos (by simp [e2])]
        · rw [if_neg e2, if_neg (fun e => e2 e.2.2)]
          exact w2 k hk
      · simp only [Pool.store, upd_ne _ _ ex]
        rw [if_neg (fun e2 => ex (by
          obtain ⟨rfl, rfl, _⟩ := e2
          rw [hg] at hq
          injection hq with e3
          exact e3.symm))]
        exact w2 k hk
  · by_cases e : l = lv + 1 ∧ q = part pg (lv + 1)
    · obtain ⟨rfl, rfl⟩ := e
      refine ⟨num pg (lv + 1), num_lt _ _, ?_⟩
      rw [Tab.put_word t h1 pg _ _ _ _ (num_lt _ _), if_pos ⟨rfl, rfl, rfl⟩]
      simp [nodeWord]
    · rw [Tab.put_ne _ _ _ _ hne] at hq
      obtain ⟨k, hk, hw⟩ := h.full l q x hq hl (fun e2 => by
        rcases hlv with rfl | rfl
        · omega
        · exact e e2)
      refine ⟨k, hk, ?_⟩
      rw [Tab.put_word t h1 pg _ _ _ k hk, if_neg (fun e2 => e ⟨e2.1, e2.2.1⟩)]
      exact hw

/-- A node without words goes. -/
theorem Tab.But.prune {p : Pool} {t : Tab} {pg lv g f : Nat} (h : t.But p pg lv) (h1 : 1 ≤ lv) (h3 : lv ≤ 3) (hf : t.nd lv (part pg lv) = some f) (hg : t.nd (lv + 1) (part pg (lv + 1)) = some g) (hz : ∀ k, k < 512 → t.word lv (part pg lv) k = 0) :
    (t.put lv (part pg lv) none).But ((p.store g (setWord (p.dat g) (num pg (lv + 1)) 0)).down f) pg (lv + 1) := by
  have hx : (0 : Nat) < 18446744073709551616 := by decide
  refine ⟨?_, fun q x hq => ?_, fun l q x hq => ?_, fun l q x hq hl => ?_, fun q l hq => ?_, fun l1 p1 l2 p2 x hx1 hx2 => ?_, fun l q x hq => ?_, fun l q x hq hl hne => ?_, h.few⟩
  · rw [Tab.put_ne _ _ _ _ (by omega)]
    exact h.root
  · rw [Tab.put_ne _ _ _ _ (by omega)] at hq
    exact h.only q x hq
  · by_cases e : l = lv ∧ q = part pg lv
    · omega
    · rw [Tab.put_ne _ _ _ _ e] at hq
      exact h.level l q x hq
  · by_cases e : l = lv ∧ q = part pg lv
    · obtain ⟨rfl, rfl⟩ := e
      rw [Tab.put_at] at hq
      cases hq
    · rw [Tab.put_ne _ _ _ _ e] at hq
      have := h.above l q x hq hl
      by_cases e2 : l + 1 = lv ∧ q / 512 = part pg lv
      · have h5 := (h.level l q x hq).1
        have := Tab.clear (t := t) (lv := lv) (by omega) hz e2.2
        rw [show lv - 1 = l from by omega, hq] at this
        cases this
      · rw [Tab.put_ne _ _ _ _ e2]; exact this
  · have := h.leaf q l hq
    refine ⟨?_, this.2⟩
    by_cases e2 : 1 = lv ∧ q / 512 = part pg lv
    · obtain ⟨rfl, e3⟩ := e2
      have h5 : t.lf q = none := Tab.clear1 (t := t) hz e3
      have h6 : t.lf q = some l := hq
      rw [h5] at h6
      cases h6
    · rw [Tab.put_ne _ _ _ _ e2]; exact this.1
  · by_cases e1 : l1 = lv ∧ p1 = part pg lv
    · obtain ⟨rfl, rfl⟩ := e1
      rw [Tab.put_at] at hx1
      cases hx1
    · by_cases e2 : l2 = lv ∧ p2 = part pg lv
      · obtain ⟨rfl, rfl⟩ := e2
        rw [Tab.put_at] at hx2
        cases hx2
      · rw [Tab.put_ne _ _ _ _ e1] at hx1
        rw [Tab.put_ne _ _ _ _ e2] at hx2
        exact h.inj _ _ _ _ _ hx1 hx2
  · by_cases e : l = lv ∧ q = part pg lv
    · obtain ⟨rfl, rfl⟩ := e
      rw [Tab.put_at] at hq
      cases hq
    · rw [Tab.put_ne _ _ _ _ e] at hq
      obtain ⟨w1, w2⟩ := h.words l q x hq
      refine ⟨w1, fun k hk => ?_⟩
      rw [Tab.put_word t h1 pg _ _ _ k hk]
      by_cases ex : x = g
      · subst ex
        obtain ⟨rfl, rfl⟩ := h.inj _ _ _ _ _ hq hg
        simp only [Pool.store, Pool.down, upd_same]
        rw [word_setWord hx]
        by_cases e2 : k = num pg (lv + 1)
        · rw [if_pos e2, if_pos (by simp [e2])]
          rfl
        · rw [if_neg e2, if_neg (fun e => e2 e.2.2)]
          exact w2 k hk
      · simp only [Pool.store, Pool.down, upd_ne _ _ ex]
        rw [if_neg (fun e2 => ex (by
          obtain ⟨rfl, rfl, _⟩ := e2
          rw [hg] at hq
          injection hq with e3
          exact e3.symm))]
        exact w2 k hk
  · by_cases e : l = lv ∧ q = part pg lv
    · obtain ⟨rfl, rfl⟩ := e
      rw [Tab.put_at] at hq
      cases hq
    · rw [Tab.put_ne _ _ _ _ e] at hq
      obtain ⟨k, hk, hw⟩ := h.full l q x hq hl e
      refine ⟨k, hk, ?_⟩
      rw [Tab.put_word t h1 pg _ _ _ k hk, if_neg (fun e2 => hne ⟨e2.1, e2.2.1⟩)]
      exact hw

end Go.Proofs.YtkkmcnngpahfaaaGreatDoor

namespace Go.Proofs.YtkkmcnngpahfaaaGreatDoor
set_option linter.unusedSimpArgs false
set_option linter.unusedVariables false

/-- The same tree over a pool whose nodes' bytes are the same. -/
theorem Tab.But.same {p p' : Pool} {t : Tab} {pg lv0 : Nat} (h : t.But p pg lv0) (hn : p'.n = p.n) (hd : ∀ f, isNode t f → p'.dat f = p.dat f) : t.But p' pg lv0 :=
  ⟨h.root, h.only, h.level, h.above, fun q l hq => by rw [hn]; exact h.leaf q l hq, h.inj, fun lv q f hf => by rw [hn, hd f ⟨lv, q, hf⟩]; exact h.words lv q f hf, h.full, by rw [hn]; exact h.few⟩

theorem Tab.Good.fresh {p : Pool} {t : Tab} {rest : Nat → Nat} {pg lv0 f : Nat} (h : t.Good p rest pg lv0) (hf : f < p.n) (h0 : p.cnt f = 0) : ¬ isNode t f ∧ leafCnt t f = 0 ∧ rest f = 0 := by
  have h1 := h.cnt f hf
  refine ⟨fun e => ?_, by omega, by omega⟩
  rw [nodeCnt_yes e] at h1
  omega
theorem Tab.Good.take {p : Pool} {t : Tab} {rest : Nat → Nat} {pg lv0 f : Nat} (h : t.Good p rest pg lv0) (hf : f < p.n) (h0 : p.cnt f = 0) : t.Good (p.takeAt f) (upd rest f 1) pg lv0 := by
  obtain ⟨h1, h2, h3⟩ := h.fresh hf h0
  refine ⟨h.but.same rfl (fun x hx => upd_ne _ _ (fun e => h1 (e ▸ hx))), fun x hx => ?_⟩
  by_cases e : x = f
  · subst e
    rw [nodeCnt_no h1]
    simp only [Pool.takeAt, upd_same]
    omega
  · simp only [Pool.takeAt, upd_ne _ _ e]
    exact h.cnt x hx
theorem Tab.Good.up {p : Pool} {t : Tab} {rest : Nat → Nat} {pg lv0 : Nat} (h : t.Good p rest pg lv0) (f : Nat) : t.Good (p.up f) (upd rest f (rest f + 1)) pg lv0 := by
  refine ⟨h.but.same rfl (fun x hx => rfl), fun x hx => ?_⟩
  have h1 := h.cnt x hx
  by_cases e : x = f
  · subst e
    simp only [Pool.up, upd_same]
    omega
  · simp only [Pool.up, upd_ne _ _ e]
    exact h1
theorem Tab.Good.down {p : Pool} {t : Tab} {rest : Nat → Nat} {pg lv0 f : Nat} (h : t.Good p rest pg lv0) (hr : 0 < rest f) : t.Good (p.down f) (upd rest f (rest f - 1)) pg lv0 := by
  refine ⟨h.but.same rfl (fun x hx => rfl), fun x hx => ?_⟩
  have h1 := h.cnt x hx
  by_cases e : x = f
  · subst e
    simp only [Pool.down, upd_same]
    omega
  · simp only [Pool.down, upd_ne _ _ e]
    exact h1
theorem leafIs_at {t : Tab} {pg f : Nat} {l : Leaf} (h : t.lf pg = some l) : leafIs t f pg = (l.frame == f) := by unfold leafIs; rw [h]
theorem leafIs_none {t : Tab} {pg f : Nat} (h : t.lf pg = none) : leafIs t f pg = false := by unfold leafIs; rw [h]
theorem leafCnt_pos {t : Tab} {pg : Nat} {l : Leaf} (hpg : pg < pagesN) (h : t.lf pg = some l) : 0 < leafCnt t l.frame := cntTo_pos hpg (by rw [leafIs_at h]; simp)

/-- A leaf is laid where none was. -/
theorem Tab.Good.layNew {p : Pool} {t : Tab} {rest : Nat → Nat} {pg lv0 g : Nat} (h : t.Good p rest pg lv0) (hlv : lv0 = 4 ∨ lv0 = 1) (hpg : pg < pagesN) (hg : t.nd 1 (part pg 1) = some g) (hno : t.lf pg = none) {l : Leaf} (h7 : l.prot ≤ 7) (hf : l.frame < p.n) (hr : 0 < rest l.frame) :
    (t.lay pg (some l)).Good (p.store g (setWord (p.dat g) (num pg 1) l.pack)) (upd rest l.frame (rest l.frame - 1)) pg 4 := by
  refine ⟨h.but.lay hlv hg (some l) (fun x hx => by injection hx with hx; subst hx; exact ⟨h7, hf⟩), fun x hx => ?_⟩
  have h1 := h.cnt x hx
  have h2 := leafCnt_lay hpg (some l) (t := t) x
  rw [leafIs_none hno] at h2
  rw [nodeCnt_lay]
  by_cases e : l.frame = x
  · subst e
    rw [upd_same]
    show p.cnt l.frame = _
    simp only [if_pos] at h2
    rw [if_neg (by simp)] at h2
    omega
  · rw [upd_ne _ _ (fun e' => e e'.symm)]
    show p.cnt x = _
    simp only [if_neg e] at h2
    rw [if_neg (by simp)] at h2
    omega
theorem up_down (c : Nat → Nat) (a b x L L' R : Nat) (h1 : c x = L + R) (h2 : L' + (if b = x then 1 else 0) = L + (if a = x then 1 else 0)) (h3 : b = x → 0 < L) :
    upd (upd c a (c a + 1)) b (upd c a (c a + 1) b - 1) x = L' + R := by
  unfold upd
  by_cases e1 : b = x
  · subst e1
    have := h3 rfl
    rw [if_pos rfl] at h2 ⊢
    by_cases e2 : b = a
    · subst e2
      rw [if_pos rfl] at h2 ⊢
      omega
    · rw [if_neg (fun e => e2 e.symm)] at h2
      rw [if_neg e2]
      omega
  · rw [if_neg e1] at h2
    rw [if_neg (fun e => e1 e.symm)]
    by_cases e2 : x = a
    · subst e2
      rw [if_pos rfl] at h2 ⊢
      omega
    · rw [if_neg (fun e => e2 e.symm)] at h2
      rw [if_neg e2]
      omega
theorem just_down (c : Nat → Nat) (b x L L' R : Nat) (h1 : c x = L + R) (h2 : L' + (if b = x then 1 else 0) = L) (h3 : b = x → 0 < L) : upd c b (c b - 1) x = L' + R := by
  unfold upd
  by_cases e1 : b = x
  · subst e1
    have := h3 rfl
    rw [if_pos rfl] at h2 ⊢
    omega
  · rw [if_neg e1] at h2
    rw [if_neg (fun e => e1 e.symm)]
    omega
/-- A leaf is laid in place of another one. -/
theorem Tab.Good.laySet {p : Pool} {t : Tab} {rest : Nat → Nat} {pg g : Nat} (h : t.Good p rest pg 4) (hpg : pg < pagesN) (hg : t.nd 1 (part pg 1) = some g) {was l : Leaf} (hw : t.lf pg = some was) (h7 : l.prot ≤ 7) (hf : l.frame < p.n) :
    (t.lay pg (some l)).Good (((p.up l.frame).down was.frame).store g (setWord (p.dat g) (num pg 1) l.pack)) rest pg 4 := by
  refine ⟨(h.but.lay (.inl rfl) hg (some l) (fun x hx => by injection hx with hx; subst hx; exact ⟨h7, hf⟩)).same rfl (fun _ _ => rfl), fun x hx => ?_⟩
  have h1 := h.cnt x hx
  have h2 := leafCnt_lay hpg (some l) (t := t) x
  rw [leafIs_at hw] at h2
  rw [nodeCnt_lay]
  have h3 := leafCnt_pos hpg hw
  have h4 := up_down p.cnt l.frame was.frame x (leafCnt t x) (leafCnt (t.lay pg (some l)) x) (nodeCnt t x + rest x) (by omega) (by simpa using h2) (fun e => by rw [← e]; exact h3)
  rw [Nat.add_assoc]
  exact h4
/-- A leaf is taken out. -/
theorem Tab.Good.layNone {p : Pool} {t : Tab} {rest : Nat → Nat} {pg g : Nat} (h : t.Good p rest pg 4) (hpg : pg < pagesN) (hg : t.nd 1 (part pg 1) = some g) {was : Leaf} (hw : t.lf pg = some was) :
    (t.lay pg none).Good ((p.down was.frame).store g (setWord (p.dat g) (num pg 1) 0)) rest pg 1 := by
  refine ⟨(h.but.lay (.inl rfl) hg none (fun x hx => by cases hx)).same rfl (fun _ _ => rfl), fun x hx => ?_⟩
  have h1 := h.cnt x hx
  have h2 := leafCnt_lay hpg none (t := t) x
  rw [leafIs_at hw] at h2
  rw [nodeCnt_lay]
  have h3 := leafCnt_pos hpg hw
  have h4 := just_down p.cnt was.frame x (leafCnt t x) (leafCnt (t.lay pg none) x) (nodeCnt t x + rest x) (by omega) (by simpa using h2) (fun e => by rw [← e]; exact h3)
  rw [Nat.add_assoc]
  exact h4
theorem isNode_put {t : Tab} {lv q : Nat} {o : Option Nat} {x : Nat} : isNode (t.put lv q o) x ↔ o = some x ∨ ∃ l r, ¬ (l = lv ∧ r = q) ∧ t.nd l r = some x := by
  constructor
  · rintro ⟨l, r, h⟩
    by_cases e : l = lv ∧ r = q
    · obtain ⟨rfl, rfl⟩ := e
      rw [Tab.put_at] at h
      exact .inl h
    · rw [Tab.put_ne _ _ _ _ e] at h
      exact .inr ⟨l, r, e, h⟩
  · rintro (h | ⟨l, r, e, h⟩)
    · exact ⟨lv, q, by rw [Tab.put_at]; exact h⟩
    · exact ⟨l, r, by rw [Tab.put_ne _ _ _ _ e]; exact h⟩
theorem leafCnt_put (t : Tab) (lv q : Nat) (o : Option Nat) (f : Nat) : leafCnt (t.put lv q o) f = leafCnt t f := rfl
/-- A fresh frame becomes a node. -/
theorem Tab.Good.link {p : Pool} {t : Tab} {rest : Nat → Nat} {pg lv0 lv g f : Nat} (h : t.Good p rest pg lv0) (h1 : 1 ≤ lv) (h3 : lv ≤ 3) (hlv : lv0 = 4 ∨ lv0 = lv + 1) (hn : t.nd lv (part pg lv) = none) (hg : t.nd (lv + 1) (part pg (lv + 1)) = some g)
    (hf : f < p.n) (hnew : ¬ isNode t f) (hz : p.dat f = fun _ => 0) (hr : 0 < rest f) :
    (t.put lv (part pg lv) (some f)).Good (p.store g (setWord (p.dat g) (num pg (lv + 1)) (nodeWord (some f)))) (upd rest f (rest f - 1)) pg lv := by
  refine ⟨h.but.link h1 h3 hlv hn hg hf hnew hz, fun x hx => ?_⟩
  have hc := h.cnt x hx
  rw [leafCnt_put]
  by_cases e : x = f
  · subst e
    rw [nodeCnt_yes (isNode_put.2 (.inl rfl)), upd_same]
    rw [nodeCnt_no hnew] at hc
    simp only [Pool.store]
    omega
  · rw [upd_ne _ _ e, nodeCnt_congr (t' := t)]
    · exact hc
    · rw [isNode_put]
      constructor
      · rintro (h5 | ⟨l, r, _, h5⟩)
        · injection h5 with h5
          exact absurd h5.symm e
        · exact ⟨l, r, h5⟩
      · rintro ⟨l, r, h5⟩
        refine .inr ⟨l, r, fun e2 => ?_, h5⟩
        rw [e2.1, e2.2, hn] at h5
        cases h5
/-- A node without words goes. -/
theorem Tab.Good.prune {p : Pool} {t : Tab} {rest : Nat → Nat} {pg lv g f : Nat} (h : t.Good p rest pg lv) (h1 : 1 ≤ lv) (h3 : lv ≤ 3) (hf : t.nd lv (part pg lv) = some f) (hg : t.nd (lv + 1) (part pg (lv + 1)) = some g) (hz : ∀ k, k < 512 → t.word lv (part pg lv) k = 0) :
    (t.put lv (part pg lv) none).Good ((p.store g (setWord (p.dat g) (num pg (lv + 1)) 0)).down f) rest pg (lv + 1) := by
  refine ⟨h.but.prune h1 h3 hf hg hz, fun x hx => ?_⟩
  have hc := h.cnt x hx
  rw [leafCnt_put]
  by_cases e : x = f
  · subst e
    have : ¬ isNode (t.put lv (part pg lv) none) x := by
      rw [isNode_put]
      rintro (h5 | ⟨l, r, h6, h5⟩)
      · cases h5
      · exact h6 (h.but.inj _ _ _ _ _ h5 hf)
    rw [nodeCnt_no this]
    rw [nodeCnt_yes ⟨_, _, hf⟩] at hc
    simp only [Pool.store, Pool.down, upd_same]
    omega
  · simp only [Pool.store, Pool.down, upd_ne _ _ e]
    rw [nodeCnt_congr (t' := t)]
    · exact hc
    · rw [isNode_put]
      constructor
      · rintro (h5 | ⟨l, r, _, h5⟩)
        · cases h5
        · exact ⟨l, r, h5⟩
      · rintro ⟨l, r, h5⟩
        refine .inr ⟨l, r, fun e2 => ?_, h5⟩
        rw [e2.1, e2.2, hf] at h5
        injection h5 with h5
        exact e h5.symm

end Go.Proofs.YtkkmcnngpahfaaaGreatDoor

namespace Go.Proofs.YtkkmcnngpahfaaaGreatDoor
set_option linter.unusedSimpArgs false
set_option linter.unusedVariables false

theorem Tab.Good.leafOf {p : Pool} {t : Tab} {rest : Nat → Nat} {pg0 pg : Nat} (h : t.Good p rest pg0 4) {l : Leaf} (hl : t.lf pg = some l) : l.prot ≤ 7 ∧ l.frame < p.n ∧ 1 ≤ p.cnt l.frame := by
  have h1 := h.but.leaf pg l hl
  have h2 := h.cnt l.frame h1.2.2
  have hpg : pg < pagesN := h.ok.rootPage hl
  have h3 := leafCnt_pos hpg hl
  exact ⟨h1.2.1, h1.2.2, by omega⟩
theorem Tab.Good.safe {p : Pool} {t : Tab} {rest : Nat → Nat} {pg0 pg lv q g : Nat} (h : t.Good p rest pg0 4) {l : Leaf} (hl : t.lf pg = some l) (hg : t.nd lv q = some g) : 2 ≤ p.cnt g ∨ (g ≠ l.frame ∧ 1 ≤ p.cnt g) := by
  have h1 := h.node hg
  by_cases e : g = l.frame
  · left
    have h2 := h.cnt g h1.1
    rw [nodeCnt_yes ⟨lv, q, hg⟩] at h2
    have h3 := leafCnt_pos (h.ok.rootPage hl) hl
    rw [← e] at h3
    omega
  · exact .inr ⟨e, h1.2⟩
theorem Tab.Good.any {p : Pool} {t : Tab} {rest : Nat → Nat} {pg0 : Nat} (h : t.Good p rest pg0 4) (pg lv : Nat) : t.Good p rest pg lv := ⟨h.but.any pg lv, h.cnt⟩

/-- What a table has come to when a page's leaf is gone, and some of the nodes above it below a level. -/
structure Gone (p : Pool) (T : Tab) (rest : Nat → Nat) (pg lv : Nat) (p' : Pool) (T' : Tab) : Prop where
  good : T'.Good p' rest pg lv
  lf : T'.lf = upd T.lf pg none
  sub : ∀ l q f, T'.nd l q = some f → T.nd l q = some f
  top : ∀ l q, lv ≤ l → T'.nd l q = T.nd l q
  n : p'.n = p.n
  kept : ∀ x, ¬ isNode T x → p'.dat x = p.dat x

theorem Gone.start {p : Pool} {T : Tab} {rest : Nat → Nat} {pg pg0 g : Nat} {was : Leaf} (h : T.Good p rest pg0 4) (hw : T.lf pg = some was) (hg : T.nd 1 (part pg 1) = some g) :
    Gone p T rest pg 1 ((p.down was.frame).store g (setWord (p.dat g) (num pg 1) 0)) (T.lay pg none) :=
  ⟨(h.any pg 4).layNone (h.ok.rootPage hw) hg hw, rfl, fun _ _ _ e => e, fun _ _ _ => rfl, rfl, fun x hx => upd_ne _ _ fun e => hx (e ▸ ⟨_, _, hg⟩)⟩
theorem Gone.zero {p : Pool} {T : Tab} {rest : Nat → Nat} {pg lv : Nat} {p' : Pool} {T' : Tab} (h : Gone p T rest pg lv p' T') {g : Nat} (hg : T'.nd lv (part pg lv) = some g) :
    (∀ i, i < 4096 → p'.dat g i = 0) ↔ ∀ k, k < 512 → T'.word lv (part pg lv) k = 0 := by
  rw [words_zero]
  have h1 := (h.good.but.words lv _ g hg).2
  constructor
  · intro h2 k hk
    rw [← h1 k hk]
    exact h2 k hk
  · intro h2 k hk
    rw [h1 k hk]
    exact h2 k hk
theorem Gone.keep {p : Pool} {T : Tab} {rest : Nat → Nat} {pg lv : Nat} {p' : Pool} {T' : Tab} (h : Gone p T rest pg lv p' T') {g : Nat} (hg : T'.nd lv (part pg lv) = some g) (hz : ¬ ∀ i, i < 4096 → p'.dat g i = 0) (m : Nat) (hm : lv ≤ m) :
    Gone p T rest pg m p' T' := by
  have h1 : ∃ k, k < 512 ∧ T'.word lv (part pg lv) k ≠ 0 := Classical.byContradiction fun e => hz ((h.zero hg).2 fun k hk => Classical.byContradiction fun e2 => e ⟨k, hk, e2⟩)
  exact ⟨⟨(h.good.but.whole (fun _ => h1) 0).any pg m, h.good.cnt⟩, h.lf, h.sub, fun l q hl => h.top l q (by omega), h.n, h.kept⟩
theorem Gone.prune {p : Pool} {T : Tab} {rest : Nat → Nat} {pg lv : Nat} {p' : Pool} {T' : Tab} (h : Gone p T rest pg lv p' T') (h1 : 1 ≤ lv) (h3 : lv ≤ 3) {g f : Nat} (hg : T'.nd lv (part pg lv) = some g) (hf : T'.nd (lv + 1) (part pg (lv + 1)) = some f)
    (hz : ∀ i, i < 4096 → p'.dat g i = 0) :
    Gone p T rest pg (lv + 1) ((p'.store f (setWord (p'.dat f) (num pg (lv + 1)) 0)).down g) (T'.put lv (part pg lv) none) :=
  ⟨h.good.prune h1 h3 hg hf ((h.zero hg).1 hz), h.lf, fun l q x hx => by
    by_cases e : l = lv ∧ q = part pg lv
    · obtain ⟨rfl, rfl⟩ := e
      rw [Tab.put_at] at hx
      cases hx
    · rw [Tab.put_ne _ _ _ _ e] at hx
      exact h.sub l q x hx, fun l q hl => by
    rw [Tab.put_ne _ _ _ _ (by omega)]
    exact h.top l q (by omega), h.n, fun x hx => (show upd p'.dat f _ x = _ from upd_ne _ _ fun e => hx (e ▸ ⟨_, _, h.sub _ _ _ hf⟩)).trans (h.kept x hx)⟩

end Go.Proofs.YtkkmcnngpahfaaaGreatDoor

namespace Go.Proofs.YtkkmcnngpahfaaaGreatDoor
set_option linter.unusedSimpArgs false
set_option linter.unusedVariables false

inductive Ev where
  | node (f : Nat)
  | leaf (pg : Nat) (l : Leaf)
deriving DecidableEq
/-- All below a place of a level: level 0 is the pages'. -/
def Tab.evs (T : Tab) : Nat → Nat → List Ev
  | 0, q => match T.lf q with | some l => [.leaf q l] | none => []
  | lv + 1, q => match T.nd (lv + 1) q with | some f => .node f :: (List.range 512).flatMap fun i => T.evs lv (q * 512 + i) | none => []
/-- The first k words of a node. -/
def Tab.upto (T : Tab) (lv q k : Nat) : List Ev := (List.range k).flatMap fun i => T.evs lv (q * 512 + i)
theorem Tab.upto_zero (T : Tab) (lv q : Nat) : T.upto lv q 0 = [] := rfl
theorem Tab.upto_succ (T : Tab) (lv q k : Nat) : T.upto lv q (k + 1) = T.upto lv q k ++ T.evs lv (q * 512 + k) := by
  unfold Tab.upto
  rw [List.range_succ, List.flatMap_append]
  simp
theorem Tab.evs_node {T : Tab} {lv q f : Nat} (h : T.nd (lv + 1) q = some f) : T.evs (lv + 1) q = .node f :: T.upto lv q 512 := by
  unfold Tab.upto
  rw [Tab.evs, h]
theorem Tab.evs_none {T : Tab} {lv q : Nat} (h : T.nd (lv + 1) q = none) : T.evs (lv + 1) q = [] := by rw [Tab.evs, h]
theorem Tab.evs_leaf {T : Tab} {q : Nat} {l : Leaf} (h : T.lf q = some l) : T.evs 0 q = [.leaf q l] := by rw [Tab.evs, h]
theorem Tab.evs_noleaf {T : Tab} {q : Nat} (h : T.lf q = none) : T.evs 0 q = [] := by rw [Tab.evs, h]
theorem Tab.upto_le (T : Tab) (lv q : Nat) {k m : Nat} (h : k ≤ m) : (T.upto lv q k).length ≤ (T.upto lv q m).length := by
  induction m with
  | zero => obtain rfl : k = 0 := by omega
            exact Nat.le_refl _
  | succ m ih =>
    rcases Nat.lt_or_ge m k with h1 | h1
    · obtain rfl : k = m + 1 := by omega
      exact Nat.le_refl _
    · rw [Tab.upto_succ, List.length_append]
      exact Nat.le_trans (ih h1) (Nat.le_add_right _ _)

end Go.Proofs.YtkkmcnngpahfaaaGreatDoor

namespace Go.Proofs.YtkkmcnngpahfaaaGreatDoor
set_option linter.unusedSimpArgs false
set_option linter.unusedVariables false

def Ev.ns : Ev → List Nat
  | .node f => [f]
  | .leaf _ _ => []
def Ev.ls : Ev → List (Nat × Leaf)
  | .node _ => []
  | .leaf pg y => [(pg, y)]
def Ev.fs : Ev → List Nat
  | .node f => [f]
  | .leaf _ y => [y.frame]

theorem Tab.Ok.over {p : Pool} {t : Tab} (h : t.Ok p) {l x f : Nat} (hf : t.nd l x = some f) (d : Nat) (hd : l + d ≤ 4) : (t.nd (l + d) (x / 512 ^ d)).isSome = true := by
  induction d with
  | zero => simp [hf]
  | succ d ih =>
    obtain ⟨g, hg⟩ := isSome_of (ih (by omega))
    have := h.above _ _ g hg (by omega)
    rw [Nat.div_div_eq_div_mul, ← Nat.pow_succ] at this
    exact this
theorem Tab.evs_ns {t : Tab} {lv q g : Nat} (h : t.nd (lv + 1) q = some g) : (t.evs (lv + 1) q).flatMap Ev.ns = g :: (List.range 512).flatMap fun i => (t.evs lv (q * 512 + i)).flatMap Ev.ns := by
  rw [Tab.evs_node h, List.flatMap_cons, Tab.upto, List.flatMap_assoc]
  simp only [Ev.ns, List.cons_append, List.nil_append]
theorem Tab.evs0_ns (t : Tab) (q : Nat) : (t.evs 0 q).flatMap Ev.ns = [] := by
  cases h : t.lf q with
  | none => rw [Tab.evs_noleaf h]; rfl
  | some l => rw [Tab.evs_leaf h]; rfl
theorem Tab.Ok.mem_ns {p : Pool} {t : Tab} (h : t.Ok p) (f : Nat) (lv : Nat) : ∀ (q : Nat), lv ≤ 4 → (f ∈ (t.evs lv q).flatMap Ev.ns ↔ ∃ l d x, 1 ≤ l ∧ l + d = lv ∧ x / 512 ^ d = q ∧ t.nd l x = some f) := by
  induction lv with
  | zero =>
    intro q _
    rw [Tab.evs0_ns]
    constructor
    · intro e; simp at e
    · rintro ⟨l, d, x, h1, h2, _⟩; omega
  | succ lv ih =>
    intro q hlv
    cases hn : t.nd (lv + 1) q with
    | none =>
      rw [Tab.evs_none hn]
      constructor
      · intro e; simp at e
      · rintro ⟨l, d, x, h1, h2, h3, h4⟩
        have := h.over h4 d (by omega)
        rw [h2, h3, hn] at this
        simp at this
    | some g =>
      rw [Tab.evs_ns hn, List.mem_cons, List.mem_flatMap]
      constructor
      · rintro (rfl | ⟨i, hi, hm⟩)
        · exact ⟨lv + 1, 0, q, by omega, by omega, by simp, hn⟩
        · obtain ⟨l, d, x, h1, h2, h3, h4⟩ := (ih _ (by omega)).1 hm
          refine ⟨l, d + 1, x, h1, by omega, ?_, h4⟩
          rw [Nat.pow_succ, ← Nat.div_div_eq_div_mul, h3]
          have := List.mem_range.1 hi
          omega
      · rintro ⟨l, d, x, h1, h2, h3, h4⟩
        cases d with
        | zero =>
          have e1 : l = lv + 1 := by omega
          subst e1
          simp at h3
          subst h3
          left
          rw [hn] at h4
          injection h4 with h4
          exact h4.symm
        | succ d =>
          right
          rw [Nat.pow_succ, ← Nat.div_div_eq_div_mul] at h3
          refine ⟨x / 512 ^ d % 512, List.mem_range.2 (Nat.mod_lt _ (by omega)), (ih _ (by omega)).2 ⟨l, d, x, h1, by omega, ?_, h4⟩⟩
          omega
theorem Tab.Ok.nodup_ns {p : Pool} {t : Tab} (h : t.Ok p) (lv : Nat) : ∀ (q : Nat), lv ≤ 4 → ((t.evs lv q).flatMap Ev.ns).Nodup := by
  induction lv with
  | zero => intro q _; rw [Tab.evs0_ns]; exact List.nodup_nil
  | succ lv ih =>
    intro q hlv
    cases hn : t.nd (lv + 1) q with
    | none => rw [Tab.evs_none hn]; exact List.nodup_nil
    | some g =>
      rw [Tab.evs_ns hn, List.nodup_cons]
      refine ⟨?_, ?_⟩
      · intro e
        obtain ⟨i, hi, hm⟩ := List.mem_flatMap.1 e
        obtain ⟨l, d, x, h1, h2, h3, h4⟩ := (h.mem_ns g lv _ (by omega)).1 hm
        have := (h.inj _ _ _ _ _ h4 hn).1
        omega
      · refine List.pairwise_flatMap.2 ⟨fun i _ => ih _ (by omega), ?_⟩
        refine List.Pairwise.imp ?_ (List.pairwise_lt_range (n := 512))
        intro i j hij x hx y hy e
        subst e
        obtain ⟨l, d, z, h1, h2, h3, h4⟩ := (h.mem_ns x lv _ (by omega)).1 hx
        obtain ⟨l', d', z', h1', h2', h3', h4'⟩ := (h.mem_ns x lv _ (by omega)).1 hy
        obtain ⟨e1, e2⟩ := h.inj _ _ _ _ _ h4 h4'
        subst e1 e2
        have e3 : d = d' := by omega
        subst e3
        omega
theorem Tab.Ok.nodes_cnt {p : Pool} {t : Tab} (h : t.Ok p) (f : Nat) : ((t.evs 4 0).flatMap Ev.ns).count f = nodeCnt t f := by
  by_cases hn : isNode t f
  · rw [nodeCnt_yes hn]
    obtain ⟨l, x, hl⟩ := hn
    have h4 := (h.level _ _ _ hl)
    have hm : f ∈ (t.evs 4 0).flatMap Ev.ns := by
      refine (h.mem_ns f 4 0 (by omega)).2 ⟨l, 4 - l, x, h4.1, by omega, ?_, hl⟩
      obtain ⟨g, hg⟩ := isSome_of (h.over hl (4 - l) (by omega))
      rw [show l + (4 - l) = 4 from by omega] at hg
      exact h.only _ _ hg
    have h1 := List.nodup_iff_count.1 (h.nodup_ns 4 0 (by omega)) f
    have h2 := List.count_pos_iff.2 hm
    omega
  · rw [nodeCnt_no hn]
    refine List.count_eq_zero.2 fun e => hn ?_
    obtain ⟨l, d, x, _, _, _, h4⟩ := (h.mem_ns f 4 0 (by omega)).1 e
    exact ⟨l, x, h4⟩
theorem few_nodup (n : Nat) : ∀ (l : List Nat), l.Nodup → (∀ x, x ∈ l → x < n) → l.length ≤ n := by
  induction n with
  | zero =>
    intro l _ h
    cases l with
    | nil => simp
    | cons a l => exact absurd (h a (by simp)) (by omega)
  | succ n ih =>
    intro l hl h
    by_cases hn : n ∈ l
    · have h1 := ih (l.erase n) (hl.erase n) (fun x hx => by
        have := (hl.mem_erase_iff.1 hx)
        have := h x this.2
        have := (hl.mem_erase_iff.1 hx).1
        omega)
      rw [List.length_erase_of_mem hn] at h1
      have := List.length_pos_of_mem hn
      omega
    · have := ih l hl (fun x hx => by
        have h1 := h x hx
        have : x ≠ n := fun e => hn (e ▸ hx)
        omega)
      omega
theorem Tab.evs_short (t : Tab) (lv : Nat) : ∀ q, (t.evs (lv + 1) q).length ≤ 513 * ((t.evs (lv + 1) q).flatMap Ev.ns).length := by
  induction lv with
  | zero =>
    intro q
    cases hn : t.nd (0 + 1) q with
    | none => rw [Tab.evs_none hn]; simp
    | some g =>
      rw [Tab.evs_ns hn, Tab.evs_node hn]
      have : ∀ k, (t.upto 0 q k).length ≤ k := by
        intro k
        induction k with
        | zero => rw [Tab.upto_zero]; simp
        | succ k ih =>
          rw [Tab.upto_succ, List.length_append]
          have : (t.evs 0 (q * 512 + k)).length ≤ 1 := by
            cases h : t.lf (q * 512 + k) with
            | none => rw [Tab.evs_noleaf h]; simp
            | some l => rw [Tab.evs_leaf h]; simp
          omega
      have := this 512
      simp only [List.length_cons]
      omega
  | succ lv ih =>
    intro q
    cases hn : t.nd (lv + 1 + 1) q with
    | none => rw [Tab.evs_none hn]; simp
    | some g =>
      rw [Tab.evs_node hn, List.flatMap_cons]
      have : ∀ k, (t.upto (lv + 1) q k).length ≤ 513 * ((t.upto (lv + 1) q k).flatMap Ev.ns).length := by
        intro k
        induction k with
        | zero => rw [Tab.upto_zero]; simp
        | succ k ih' =>
          rw [Tab.upto_succ, List.length_append, List.flatMap_append, List.length_append]
          have := ih (q * 512 + k)
          omega
      have := this 512
      simp only [List.length_cons, List.length_append, Ev.ns, List.length_nil]
      omega
theorem Tab.Ok.short {p : Pool} {t : Tab} (h : t.Ok p) : (t.evs 4 0).length ≤ 525312 := by
  have h1 : (t.evs 4 0).length ≤ 513 * ((t.evs 4 0).flatMap Ev.ns).length := Tab.evs_short t 3 0
  have h2 := few_nodup p.n _ (h.nodup_ns 4 0 (by omega)) (fun x hx => by
    obtain ⟨l, d, y, _, _, _, h4⟩ := (h.mem_ns x 4 0 (by omega)).1 hx
    exact (h.live _ _ _ h4).1)
  have h3 := h.few
  omega

theorem cntTo_add (q : Nat → Bool) (a b : Nat) : cntTo q (a + b) = cntTo q a + cntTo (fun i => q (a + i)) b := by
  induction b with
  | zero => rfl
  | succ b ih => rw [← Nat.add_assoc]; simp only [cntTo]; rw [ih]; omega
theorem Tab.Ok.leaf_cnt {p : Pool} {t : Tab} (h : t.Ok p) (f : Nat) (lv : Nat) : ∀ q, lv ≤ 4 → ((t.evs lv q).flatMap Ev.ls).countP (fun y => y.2.frame == f) = cntTo (fun i => leafIs t f (q * 512 ^ lv + i)) (512 ^ lv) := by
  induction lv with
  | zero =>
    intro q _
    simp only [Nat.pow_zero, Nat.mul_one, cntTo, Nat.add_zero, Nat.zero_add]
    cases hl : t.lf q with
    | none => simp [Tab.evs_noleaf hl, leafIs_none hl]
    | some l => simp [Tab.evs_leaf hl, leafIs_at hl, Ev.ls, List.countP_cons]
  | succ lv ih =>
    intro q hlv
    cases hn : t.nd (lv + 1) q with
    | none =>
      rw [Tab.evs_none hn]
      symm
      refine cntTo_zero.2 fun i hi => leafIs_none (h.noLeaf (lv := lv + 1) (by omega) hlv ?_)
      have : part (q * 512 ^ (lv + 1) + i) (lv + 1) = q := by
        unfold part
        rw [Nat.mul_comm, Nat.mul_add_div (Nat.pos_of_ne_zero (by simp)), Nat.div_eq_of_lt hi, Nat.add_zero]
      rw [this]
      exact hn
    | some g =>
      rw [Tab.evs_node hn, List.flatMap_cons]
      have : ∀ k, ((t.upto lv q k).flatMap Ev.ls).countP (fun y => y.2.frame == f) = cntTo (fun i => leafIs t f (q * 512 ^ (lv + 1) + i)) (k * 512 ^ lv) := by
        intro k
        induction k with
        | zero => rw [Tab.upto_zero, Nat.zero_mul]; rfl
        | succ k ih' =>
          rw [Tab.upto_succ, List.flatMap_append, List.countP_append, ih', ih _ (by omega), Nat.succ_mul, cntTo_add]
          congr 1
          refine cntTo_congr fun i hi => ?_
          congr 1
          rw [Nat.pow_succ, Nat.add_mul, Nat.mul_assoc, Nat.mul_comm 512 (512 ^ lv), ← Nat.mul_assoc]
          omega
      rw [List.countP_append, this 512, Nat.pow_succ, Nat.mul_comm (512 ^ lv) 512]
      simp [Ev.ls]
theorem Tab.Ok.leaves_cnt {p : Pool} {t : Tab} (h : t.Ok p) (f : Nat) : ((t.evs 4 0).flatMap Ev.ls).countP (fun y => y.2.frame == f) = leafCnt t f := by
  rw [h.leaf_cnt f 4 0 (by omega)]
  refine cntTo_congr fun i _ => ?_
  congr 1
  omega
theorem evs_fs (l : List Ev) (f : Nat) : (l.flatMap Ev.fs).count f = (l.flatMap Ev.ns).count f + (l.flatMap Ev.ls).countP (fun y => y.2.frame == f) := by
  induction l with
  | nil => rfl
  | cons e l ih =>
    rw [List.flatMap_cons, List.flatMap_cons, List.flatMap_cons, List.count_append, List.count_append, List.countP_append, ih]
    cases e <;> simp [Ev.fs, Ev.ns, Ev.ls, List.count_cons, List.countP_cons] <;> omega
/-- All that Free gives up: each frame as often as leaves and nodes say. -/
theorem Tab.Ok.frames_cnt {p : Pool} {t : Tab} (h : t.Ok p) (f : Nat) : ((t.evs 4 0).flatMap Ev.fs).count f = leafCnt t f + nodeCnt t f := by
  rw [evs_fs, h.nodes_cnt, h.leaves_cnt, Nat.add_comm]
theorem Tab.evs_sound (t : Tab) (pg : Nat) (y : Leaf) (lv : Nat) : ∀ q, (pg, y) ∈ (t.evs lv q).flatMap Ev.ls → t.lf pg = some y := by
  induction lv with
  | zero =>
    intro q hm
    cases hl : t.lf q with
    | none => rw [Tab.evs_noleaf hl] at hm; simp at hm
    | some l =>
      rw [Tab.evs_leaf hl] at hm
      simp [Ev.ls] at hm
      obtain ⟨rfl, rfl⟩ := hm
      exact hl
  | succ lv ih =>
    intro q hm
    cases hn : t.nd (lv + 1) q with
    | none => rw [Tab.evs_none hn] at hm; simp at hm
    | some g =>
      rw [Tab.evs_node hn, List.flatMap_cons, List.mem_append] at hm
      rcases hm with hm | hm
      · simp [Ev.ls] at hm
      · rw [Tab.upto, List.flatMap_assoc] at hm
        obtain ⟨i, _, hi⟩ := List.mem_flatMap.1 hm
        exact ih _ hi
theorem Tab.evs_bounds (t : Tab) {p : Pool} (h : t.Ok p) (pg : Nat) (y : Leaf) (hm : (pg, y) ∈ (t.evs 4 0).flatMap Ev.ls) : pg < 68719476736 := h.rootPage (t.evs_sound pg y 4 0 hm)

end Go.Proofs.YtkkmcnngpahfaaaGreatDoor

namespace Go.Proofs.YtkkmcnngpahfaaaGreatDoor
set_option linter.unusedSimpArgs false
set_option linter.unusedVariables false

/-- Does something stand at a place of a level (0: a page's leaf)? -/
def Tab.there (t : Tab) : Nat → Nat → Bool
  | 0, q => (t.lf q).isSome
  | lv + 1, q => (t.nd (lv + 1) q).isSome
theorem Tab.word_there (t : Tab) (lv q k : Nat) : t.word (lv + 1) q k ≠ 0 ↔ t.there lv (q * 512 + k) = true := by
  cases lv with
  | zero =>
    show t.word 1 q k ≠ 0 ↔ (t.lf (q * 512 + k)).isSome = true
    unfold Tab.word
    rw [if_pos rfl]
    cases h : t.lf (q * 512 + k) with
    | none => simp
    | some l =>
      have := pack_odd l
      have h0 : l.pack ≠ 0 := by omega
      simpa using h0
  | succ lv =>
    show t.word (lv + 1 + 1) q k ≠ 0 ↔ (t.nd (lv + 1) (q * 512 + k)).isSome = true
    unfold Tab.word
    rw [if_neg (by omega)]
    simp only [Nat.add_sub_cancel]
    cases h : t.nd (lv + 1) (q * 512 + k) with
    | none => simp
    | some f => simp
def nsW (W : Nat → Nat) (l : List Ev) : Nat := ((l.flatMap Ev.ns).map W).sum
def nsL (l : List Ev) : Nat := (l.flatMap Ev.ns).length + (l.flatMap Ev.ls).length
theorem nsW_append (W : Nat → Nat) (a b : List Ev) : nsW W (a ++ b) = nsW W a + nsW W b := by
  unfold nsW
  rw [List.flatMap_append, List.map_append, List.sum_append]
theorem nsL_append (a b : List Ev) : nsL (a ++ b) = nsL a + nsL b := by
  unfold nsL
  rw [List.flatMap_append, List.flatMap_append, List.length_append, List.length_append]
  omega
theorem nsW_cons (W : Nat → Nat) (g : Nat) (b : List Ev) : nsW W (.node g :: b) = W g + nsW W b := by
  unfold nsW
  rw [List.flatMap_cons, List.map_append, List.sum_append]
  simp [Ev.ns]
theorem nsL_cons (g : Nat) (b : List Ev) : nsL (.node g :: b) = 1 + nsL b := by
  unfold nsL
  rw [List.flatMap_cons, List.flatMap_cons, List.length_append, List.length_append]
  simp [Ev.ns, Ev.ls]
  omega
def b01 (b : Bool) : Nat := if b = true then 1 else 0
theorem cntTo_succ (q : Nat → Bool) (n : Nat) : cntTo q (n + 1) = cntTo q n + b01 (q n) := rfl
theorem words_upto {W : Nat → Nat} {d : Nat → Nat} {t : Tab} {lv q N : Nat} (ih : ∀ k, nsW W (t.evs lv (q * 512 + k)) + b01 (t.there lv (q * 512 + k)) = nsL (t.evs lv (q * 512 + k))) (hw : ∀ k, k < N → (word d k != 0) = t.there lv (q * 512 + k)) (k : Nat) (hk : k ≤ N) :
    nsW W (t.upto lv q k) + cntTo (fun i => word d i != 0) k = nsL (t.upto lv q k) := by
  induction k with
  | zero => rw [Tab.upto_zero]; rfl
  | succ k ih' =>
    have h1 := ih' (by omega)
    have h2 := ih k
    have h3 := hw k (by omega)
    rw [Tab.upto_succ, nsW_append, nsL_append, cntTo_succ, h3]
    omega
theorem words_sum {p : Pool} {t : Tab} (h : t.Ok p) {W : Nat → Nat} {N : Nat} (hN : N = 512) (hW : ∀ f, W f = cntTo (fun i => word (p.dat f) i != 0) N) (lv : Nat) : ∀ q, lv ≤ 4 → nsW W (t.evs lv q) + b01 (t.there lv q) = nsL (t.evs lv q) := by
  induction lv with
  | zero =>
    intro q _
    have e : t.there 0 q = (t.lf q).isSome := rfl
    rw [e]
    cases hl : t.lf q with
    | none => simp [Tab.evs_noleaf hl, nsW, nsL, b01]
    | some l => simp [Tab.evs_leaf hl, Ev.ls, Ev.ns, nsW, nsL, b01]
  | succ lv ih =>
    intro q hlv
    have e : t.there (lv + 1) q = (t.nd (lv + 1) q).isSome := rfl
    rw [e]
    cases hn : t.nd (lv + 1) q with
    | none =>
      rw [Tab.evs_none hn]
      simp [nsW, nsL, b01]
    | some g =>
      have h9 := words_upto (W := W) (d := p.dat g) (t := t) (lv := lv) (q := q) (N := N) (fun k => ih _ (by omega)) (fun k hk => by
        rw [h.words _ _ _ hn k (by omega)]
        have := t.word_there lv q k
        by_cases c : t.there lv (q * 512 + k) = true
        · rw [c]; simpa using this.2 c
        · have c' : t.there lv (q * 512 + k) = false := by simpa using c
          rw [c']
          simpa using fun e => c (this.1 e)) N (Nat.le_refl _)
      rw [Tab.evs_node hn, ← hN, nsW_cons, nsL_cons, hW g]
      show _ + _ + 1 = _
      omega
theorem Tab.Ok.words_all {p : Pool} {t : Tab} (h : t.Ok p) {W : Nat → Nat} {N : Nat} (hN : N = 512) (hW : ∀ f, W f = cntTo (fun i => Go.Proofs.YtkkmcnngpahfaaaGreatDoor.word (p.dat f) i != 0) N) : (((t.evs 4 0).flatMap Ev.ns).map W).sum + 1 = ((t.evs 4 0).flatMap Ev.ns).length + ((t.evs 4 0).flatMap Ev.ls).length := by
  have h1 := words_sum h hN hW 4 0 (by omega)
  have e : t.there 4 0 = true := h.root
  rw [e] at h1
  exact h1

theorem Tab.Ok.below {p : Pool} {t : Tab} (h : t.Ok p) (lv : Nat) : ∀ q, 1 ≤ lv → lv < 4 → (t.nd lv q).isSome = true → ∃ pg l, part pg lv = q ∧ t.lf pg = some l := by
  induction lv with
  | zero => intro q h1; omega
  | succ lv ih =>
    intro q _ h4 hs
    obtain ⟨f, hf⟩ := isSome_of hs
    obtain ⟨k, hk, hw⟩ := h.full _ _ _ hf h4
    have := (t.word_there lv q k).1 hw
    cases lv with
    | zero =>
      obtain ⟨l, hl⟩ := isSome_of this
      refine ⟨q * 512 + k, l, ?_, hl⟩
      unfold part
      simp only [Nat.zero_add, Nat.pow_one]
      omega
    | succ lv =>
      obtain ⟨pg, l, e, hl⟩ := ih (q * 512 + k) (by omega) (by omega) this
      refine ⟨pg, l, ?_, hl⟩
      rw [← part_up, e]
      omega
/-- With the same leaves the nodes stand at the same places. -/
theorem Tab.Ok.places {p p' : Pool} {t t' : Tab} (h : t.Ok p) (h' : t'.Ok p') (he : t'.lf = t.lf) {lv q f : Nat} (hf : t.nd lv q = some f) : (t'.nd lv q).isSome = true := by
  obtain ⟨h1, h4⟩ := h.level _ _ _ hf
  by_cases c : lv = 4
  · subst c
    rw [h.only _ _ hf]
    exact h'.root
  · obtain ⟨pg, l, e, hl⟩ := h.below lv q h1 (by omega) (by rw [hf]; rfl)
    rw [← e]
    exact h'.leafUp (by rw [he]; exact hl) lv h1 h4
/-- Two tables below a third one, with the same leaves, are the same. -/
theorem Tab.Ok.back {p p' : Pool} {t t1 t' : Tab} (h : t.Ok p) (h' : t'.Ok p') (he : t'.lf = t.lf) (hg : ∀ lv q f, t.nd lv q = some f → t1.nd lv q = some f) (hs : ∀ lv q f, t'.nd lv q = some f → t1.nd lv q = some f) : t' = t := by
  obtain ⟨n, l⟩ := t
  obtain ⟨n', l'⟩ := t'
  have e1 : l' = l := he
  subst e1
  congr 1
  funext lv q
  cases c : n lv q with
  | none =>
    cases c' : n' lv q with
    | none => rfl
    | some f =>
      have := h'.places h rfl (lv := lv) (q := q) (f := f) c'
      have c9 : (Tab.mk n l').nd lv q = none := c
      rw [c9] at this
      simp at this
  | some f =>
    have := h.places h' rfl (lv := lv) (q := q) (f := f) c
    obtain ⟨g, hg'⟩ := isSome_of this
    have e2 := hs lv q g hg'
    have e3 := hg lv q f c
    rw [e2] at e3
    injection e3 with e3
    subst e3
    exact hg'

end Go.Proofs.YtkkmcnngpahfaaaGreatDoor
