/- The cache's laws: the object in memory, and how it is turned. (The lemmas on its two rows are printed by wip/bin/gen_vqf.py.) -/
import Derived.Test.YtmkgdgfbdmjeeaaDoorVqE
import Derived.Test.YtmkgdgfbdmjeeaaDoorTwA

namespace Go.Proofs.YtmkgdgfbdmjeeaaDoor
open Go.RowKit Go.Sort
set_option linter.unusedSimpArgs false
set_option linter.unusedVariables false

/-- A row lies apart from the pool, the object, the cache and its slots. -/
def RowNo (S : Nat → Prop) (o c m : Nat) (H : Option Addr) : Prop := ∀ b, H = some ⟨b, 0, none⟩ → ¬ S b ∧ b ≠ o ∧ b ≠ c ∧ b ≠ m
/-- What the object is made of, but what was there ahead of it. -/
def Foot8 (S : Nat → Prop) (o c m : Nat) (Hl Hh : Option Addr) : Nat → Prop := fun b => S b ∨ b = o ∨ b = c ∨ b = m ∨ Hl = some ⟨b, 0, none⟩ ∨ Hh = some ⟨b, 0, none⟩
/-- What stays: all that was there ahead, and all that is not the object's. -/
structure Stay8 (B : Nat) (X Y : Nat → Prop) (w w' : World) : Prop where
  below : Below B w w'
  mod : Mod X w w'
  out : Out X Y w
theorem Stay8.trans {B : Nat} {X Y Z : Nat → Prop} {w w1 w2 : World} (h : Stay8 B X Y w w1) (k : Stay8 B Y Z w1 w2) : Stay8 B X Z w w2 := ⟨h.below.trans k.below, h.mod.trans h.out k.mod, h.out.trans k.out h.mod.size⟩
theorem Stay8.of {B : Nat} {X : Nat → Prop} {w w' : World} (h : Below w.heap.size w w') (hB : B ≤ w.heap.size) : Stay8 B X X w w' := ⟨h.mono hB, Mod.of h, Out.refl _ _⟩
structure Run8 (w : World) (B o a c fs m : Nat) (S : Nat → Prop) (F : List Nd) (s : St8) (Hl : Option Addr) (cl : Nat) (Hh : Option Addr) (ch : Nat) : Prop where
  self : w.heap[o]? = some (.cells #[.pointer (some ⟨a, 0, none⟩), .pointer (some ⟨fs, 0, none⟩), .pointer (some ⟨c, 0, none⟩), .slice Hl s.l.length cl, .slice Hh s.h.length ch] 91 (0, 0))
  cache : CacheAt w S c a fs m s.clock s.p s.L
  files : ∃ w1 B1 nb c2 ad mp, w1.heap.size = B ∧ FsIs w1 B1 fs nb c2 ad mp F ∧ Below B w1 w
  rowL : OwnN w B Hl cl s.l
  rowH : OwnN w B Hh ch s.h
  noL : RowNo S o c m Hl
  noH : RowNo S o c m Hh
  two : ∀ b, Hl = some ⟨b, 0, none⟩ → Hh ≠ some ⟨b, 0, none⟩
  low : ∀ b, S b → B ≤ b
  lows : B ≤ o ∧ B ≤ c ∧ B ≤ m ∧ 0 < B
  noS : ¬ S o
  ne : o ≠ c ∧ o ≠ m
theorem row8_lt {w : World} {base : Nat} {A : Option Addr} {cap : Nat} {l : List Nat} (h : OwnN w base A cap l) : ∀ b, A = some ⟨b, 0, none⟩ → base ≤ b ∧ b < w.heap.size := fun b hb => by
  rcases h.form with ⟨e, _⟩ | ⟨g, e, h1, h2, _⟩
  · rw [e] at hb; cases hb
  · rw [e] at hb; injection hb with hb; injection hb with hb; subst hb; exact ⟨h1, h2⟩
theorem Run8.base {w : World} {B o a c fs m : Nat} {S : Nat → Prop} {F : List Nd} {s : St8} {Hl Hh : Option Addr} {cl ch : Nat} (h : Run8 w B o a c fs m S F s Hl cl Hh ch) : B ≤ w.heap.size := by
  obtain ⟨w1, _, _, _, _, _, h1, _, h3⟩ := h.files
  have := h3.size
  omega
theorem Run8.lts {w : World} {B o a c fs m : Nat} {S : Nat → Prop} {F : List Nd} {s : St8} {Hl Hh : Option Addr} {cl ch : Nat} (h : Run8 w B o a c fs m S F s Hl cl Hh ch) : o < w.heap.size ∧ c < w.heap.size ∧ m < w.heap.size ∧ ∀ b, S b → b < w.heap.size :=
  ⟨(Array.getElem?_eq_some_iff.1 h.self).1, h.cache.lts.1, h.cache.lts.2.1, h.cache.pool.low⟩
theorem Run8.fs {w : World} {B o a c fs m : Nat} {S : Nat → Prop} {F : List Nd} {s : St8} {Hl Hh : Option Addr} {cl ch : Nat} (h : Run8 w B o a c fs m S F s Hl cl Hh ch) {W : World} (hb : Below B w W) : ∃ B1 nb c2 ad mp, FsIs W B1 fs nb c2 ad mp F := by
  obtain ⟨w1, B1, nb, c2, ad, mp, h1, h2, h3⟩ := h.files
  exact ⟨B1, nb, c2, ad, mp, h2.below (by rw [h1]; exact h3.trans hb)⟩
/-- The pool, the slots and the cache are turned. -/
theorem Run8.turn {w w0 w1 : World} {B o a c fs m : Nat} {S S' : Nat → Prop} {F : List Nd} {s : St8} {Hl Hh : Option Addr} {cl ch : Nat} {clock' : Int} {p' : Pool} {L' : List Slot} (h : Run8 w B o a c fs m S F s Hl cl Hh ch) (hb0 : Below w.heap.size w w0) (hC : CacheAt w1 S' c a fs m clock' p' L')
    (hm : Mod (fun b => S b ∨ b = m ∨ b = c) w0 w1) (ho : Out S S' w0) : Run8 w1 B o a c fs m S' F ⟨p', L', clock', s.l, s.h⟩ Hl cl Hh ch ∧ Stay8 B (Foot8 S o c m Hl Hh) (Foot8 S' o c m Hl Hh) w w1 := by
  obtain ⟨l1, l2, l3, l4⟩ := h.lts
  have hB := h.base
  have hz0 := hb0.size
  have hz1 := hm.size
  have key : ∀ b, b < w.heap.size → ¬ S b → b ≠ m → b ≠ c → w1.heap[b]? = w.heap[b]? := fun b hb h1 h2 h3 =>
    (hm.block b (by omega) (fun e => e.elim h1 fun e => e.elim h2 h3)).trans (hb0.block b hb)
  have hbel : Below B w w1 := ⟨hm.os.trans hb0.os, hm.tape.trans hb0.tape, hm.output.trans hb0.output, by omega, fun b hb => key b (by omega) (fun e => by have := h.low b e; omega) (by have := h.lows; omega) (by have := h.lows; omega)⟩
  obtain ⟨wf, B1, nb, c2, ad, mp, hf1, hf2, hf3⟩ := h.files
  have hS' : ∀ b, S' b → S b ∨ w0.heap.size ≤ b := ho
  have hno : ∀ H cp l, OwnN w B H cp l → RowNo S o c m H → RowNo S' o c m H := fun H cp l hr hn b hb => by
    obtain ⟨n1, n2, n3, n4⟩ := hn b hb
    have := (row8_lt hr b hb).2
    exact ⟨fun e => (hS' b e).elim n1 (by omega), n2, n3, n4⟩
  have hrow : ∀ H cp l, OwnN w B H cp l → RowNo S o c m H → OwnN w1 B H cp l := fun H cp l hr hn => hr.same fun g hg => by
    obtain ⟨n1, n2, n3, n4⟩ := hn g hg
    exact key g (row8_lt hr g hg).2 n1 n4 n3
  exact ⟨⟨(key o l1 h.noS h.ne.2 h.ne.1).trans h.self, hC, ⟨wf, B1, nb, c2, ad, mp, hf1, hf2, hf3.trans hbel⟩, hrow _ _ _ h.rowL h.noL, hrow _ _ _ h.rowH h.noH, hno _ _ _ h.rowL h.noL, hno _ _ _ h.rowH h.noH, h.two, fun b hb => (hS' b hb).elim (h.low b) (fun e => by omega), h.lows, fun e => (hS' o e).elim h.noS (by omega), h.ne⟩, hbel, ((Mod.of hb0).trans (Out.refl _ _) hm).sub fun b hb => (by unfold Foot8; rcases hb with e | e | e <;> simp [e]), fun b hb => (by rcases hb with e | e; (rcases hS' b e with e | e; exact .inl (.inl e); exact .inr (by omega)); exact .inl (.inr e))⟩
theorem Run8.below {w w' : World} {B o a c fs m : Nat} {S : Nat → Prop} {F : List Nd} {s : St8} {Hl Hh : Option Addr} {cl ch : Nat} (h : Run8 w B o a c fs m S F s Hl cl Hh ch) (hb : Below w.heap.size w w') : Run8 w' B o a c fs m S F s Hl cl Hh ch :=
  (h.turn hb (h.cache.below hb) (Mod.refl _ _) (Out.refl _ _)).1

/-- Another row in place of that of the field 3. -/
theorem Run8.reL {w w' : World} {B o a c fs m : Nat} {S : Nat → Prop} {F : List Nd} {s : St8} {Hl Hh H' : Option Addr} {cl ch c' : Nat} {l' : List Nat} (h : Run8 w B o a c fs m S F s Hl cl Hh ch) (hm : Mod (fun b => b = o ∨ Hl = some ⟨b, 0, none⟩) w w')
    (hO' : w'.heap[o]? = some (.cells #[.pointer (some ⟨a, 0, none⟩), .pointer (some ⟨fs, 0, none⟩), .pointer (some ⟨c, 0, none⟩), .slice H' l'.length c', .slice Hh s.h.length ch] 91 (0, 0))) (hrow : OwnN w' B H' c' l') (hH' : ∀ b, H' = some ⟨b, 0, none⟩ → Hl = some ⟨b, 0, none⟩ ∨ w.heap.size ≤ b) :
    Run8 w' B o a c fs m S F ⟨s.p, s.L, s.clock, l', s.h⟩ H' c' Hh ch ∧ Stay8 B (Foot8 S o c m Hl Hh) (Foot8 S o c m H' Hh) w w' := by
  obtain ⟨l1, l2, l3, l4⟩ := h.lts
  have hB := h.base
  have hlow : ∀ b, (b = o ∨ Hl = some ⟨b, 0, none⟩) → B ≤ b := fun b hb => hb.elim (fun e => by have := h.lows; omega) (fun e => (row8_lt h.rowL b e).1)
  have hbel : Below B w w' := hm.below hlow hB
  obtain ⟨wf, B1, nb, c2, ad, mp, hf1, hf2, hf3⟩ := h.files
  have hoff : ∀ b, b ≠ o → (∀ x, Hl = some ⟨x, 0, none⟩ → b ≠ x) → ¬ (b = o ∨ Hl = some ⟨b, 0, none⟩) := fun b h1 h2 e => e.elim h1 (fun e => h2 b e rfl)
  have h0 : ¬ ((0 : Nat) = o ∨ Hl = some ⟨0, 0, none⟩) := fun e => by have := hlow 0 e; have := h.lows; omega
  have hot : OwnN w' B Hh ch s.h := h.rowH.same fun g hg => hm.block g (row8_lt h.rowH g hg).2 (hoff g (h.noH g hg).2.1 fun x hx e => by
    subst e
    exact h.two _ hx hg)
  refine ⟨⟨hO', h.cache.mod hm (fun b hb e => e.elim (fun e => h.noS (e ▸ hb)) (fun e => (h.noL b e).1 hb)) h0 (hoff c (fun e => h.ne.1 e.symm) fun x hx e => (h.noL x hx).2.2.1 e.symm) (hoff m (fun e => h.ne.2 e.symm) fun x hx e => (h.noL x hx).2.2.2 e.symm), ⟨wf, B1, nb, c2, ad, mp, hf1, hf2, hf3.trans hbel⟩, hrow, hot, fun b hb => ?_, h.noH, fun b hb => ?_, h.low, h.lows, h.noS, h.ne⟩, hbel, hm.sub fun b hb => (by unfold Foot8; rcases hb with e | e <;> simp [e]), fun b hb => (by unfold Foot8 at hb ⊢; rcases hb with e | e | e | e | e | e <;> first | (refine (hH' b e).elim (fun e => .inl (.inr (.inr (.inr (.inr (.inl e)))))) .inr; done) | (left; simp [e]; done))⟩
  · rcases hH' b hb with e | e
    · exact h.noL b e
    · exact ⟨fun e2 => by have := l4 b e2; omega, by omega, by omega, by omega⟩
  · intro e9
    rcases hH' b hb with e | e
    · exact h.two b e e9
    · have := (row8_lt h.rowH b e9).2; omega
/-- One number more behind the row of the field 3. -/
theorem Run8.pushL {w w3 w4 : World} {B o a c fs m g' cap' f : Nat} {S : Nat → Prop} {F : List Nd} {s : St8} {Hl Hh : Option Addr} {cl ch : Nat} (h : Run8 w B o a c fs m S F s Hl cl Hh ch) (hb : Below w.heap.size w w3) (ho4 : OwnN w4 B (some ⟨g', 0, none⟩) cap' (s.l ++ [f]))
    (hg4 : w3.grownBy w4 (Hl.map (·.block))) (hat4 : Hl.map (·.block) = some g' ∨ g' = w3.heap.size) (hlt4 : g' < w4.heap.size) :
    Run8 (w4.setCell ⟨o, 3, none⟩ (.slice (some ⟨g', 0, none⟩) (s.l.length + 1) cap')) B o a c fs m S F ⟨s.p, s.L, s.clock, s.l ++ [f], s.h⟩ (some ⟨g', 0, none⟩) cap' Hh ch ∧ Stay8 B (Foot8 S o c m Hl Hh) (Foot8 S o c m (some ⟨g', 0, none⟩) Hh) w (w4.setCell ⟨o, 3, none⟩ (.slice (some ⟨g', 0, none⟩) (s.l.length + 1) cap')) := by
  obtain ⟨l1, l2, l3, l4⟩ := h.lts
  have hz3 := hb.size
  have hz4 := hg4.size
  have hrb : ∀ k, Hl.map (·.block) = some k → Hl = some ⟨k, 0, none⟩ := fun k e => by
    rcases h.rowL.form with ⟨h9, _⟩ | ⟨g, h9, _⟩
    · rw [h9] at e; cases e
    · rw [h9] at e
      simp only [Option.map_some, Option.some.injEq] at e
      rw [h9, e]
  have hm24 : Mod (fun b => Hl = some ⟨b, 0, none⟩) w w4 := ⟨hg4.os.trans hb.os, hg4.tape.trans hb.tape, hg4.output.trans hb.output, by omega, fun b hbl hn => (hg4.block b (by omega) (fun e => hn (hrb b e.symm))).trans (hb.block b hbl)⟩
  have hm45 := mod_set (S := fun b => b = o) (w := w4) (b := o) rfl 3 (.slice (some ⟨g', 0, none⟩) (s.l.length + 1) cap')
  have hm25 : Mod (fun b => b = o ∨ Hl = some ⟨b, 0, none⟩) w (w4.setCell ⟨o, 3, none⟩ (.slice (some ⟨g', 0, none⟩) (s.l.length + 1) cap')) := (hm24.sub fun b hb => .inr hb).trans (Out.refl _ _) (hm45.sub fun b hb => .inl hb)
  have hHo : Hl ≠ some ⟨o, 0, none⟩ := fun e => (h.noL o e).2.1 rfl
  have hO4 := (hm24.block o l1 hHo).trans h.self
  have hgo : g' ≠ o := by
    rcases hat4 with e | e
    · exact fun e2 => hHo (e2 ▸ hrb g' e)
    · omega
  refine h.reL (H' := some ⟨g', 0, none⟩) (c' := cap') (l' := s.l ++ [f]) hm25 ?_ ?_ ?_
  · rw [List.length_append]
    have h8 := Joins.block_setCell (i := 3) hO4 (.slice (some ⟨g', 0, none⟩) (s.l.length + 1) cap')
    simpa using h8
  · exact ho4.same fun b hb => by
      injection hb with hb
      injection hb with hb
      subst hb
      exact hm45.block _ hlt4 hgo
  · intro b hb
    injection hb with hb
    injection hb with hb
    subst hb
    rcases hat4 with e | e
    · exact .inl (hrb _ e)
    · right; omega
/-- The object's cell behind the append. -/
theorem Run8.farL {w w3 w4 : World} {B o a c fs m : Nat} {S : Nat → Prop} {F : List Nd} {s : St8} {Hl Hh : Option Addr} {cl ch : Nat} (h : Run8 w B o a c fs m S F s Hl cl Hh ch) (hb : Below w.heap.size w w3) (hg4 : w3.grownBy w4 (Hl.map (·.block))) : w4.heap[o]? = w.heap[o]? := by
  obtain ⟨l1, l2, l3, l4⟩ := h.lts
  have hz3 := hb.size
  refine (hg4.block o (by omega) (fun e => ?_)).trans (hb.block o l1)
  rcases h.rowL.form with ⟨h9, _⟩ | ⟨g, h9, _⟩
  · rw [h9] at e; cases e
  · rw [h9] at e
    simp only [Option.map_some, Option.some.injEq] at e
    exact (h.noL g h9).2.1 e.symm

/-- Another row in place of that of the field 4. -/
theorem Run8.reH {w w' : World} {B o a c fs m : Nat} {S : Nat → Prop} {F : List Nd} {s : St8} {Hl Hh H' : Option Addr} {cl ch c' : Nat} {l' : List Nat} (h : Run8 w B o a c fs m S F s Hl cl Hh ch) (hm : Mod (fun b => b = o ∨ Hh = some ⟨b, 0, none⟩) w w')
    (hO' : w'.heap[o]? = some (.cells #[.pointer (some ⟨a, 0, none⟩), .pointer (some ⟨fs, 0, none⟩), .pointer (some ⟨c, 0, none⟩), .slice Hl s.l.length cl, .slice H' l'.length c'] 91 (0, 0))) (hrow : OwnN w' B H' c' l') (hH' : ∀ b, H' = some ⟨b, 0, none⟩ → Hh = some ⟨b, 0, none⟩ ∨ w.heap.size ≤ b) :
    Run8 w' B o a c fs m S F ⟨s.p, s.L, s.clock, s.l, l'⟩ Hl cl H' c' ∧ Stay8 B (Foot8 S o c m Hl Hh) (Foot8 S o c m Hl H') w w' := by
  obtain ⟨l1, l2, l3, l4⟩ := h.lts
  have hB := h.base
  have hlow : ∀ b, (b = o ∨ Hh = some ⟨b, 0, none⟩) → B ≤ b := fun b hb => hb.elim (fun e => by have := h.lows; omega) (fun e => (row8_lt h.rowH b e).1)
  have hbel : Below B w w' := hm.below hlow hB
  obtain ⟨wf, B1, nb, c2, ad, mp, hf1, hf2, hf3⟩ := h.files
  have hoff : ∀ b, b ≠ o → (∀ x, Hh = some ⟨x, 0, none⟩ → b ≠ x) → ¬ (b = o ∨ Hh = some ⟨b, 0, none⟩) := fun b h1 h2 e => e.elim h1 (fun e => h2 b e rfl)
  have h0 : ¬ ((0 : Nat) = o ∨ Hh = some ⟨0, 0, none⟩) := fun e => by have := hlow 0 e; have := h.lows; omega
  have hot : OwnN w' B Hl cl s.l := h.rowL.same fun g hg => hm.block g (row8_lt h.rowL g hg).2 (hoff g (h.noL g hg).2.1 fun x hx e => by
    subst e
    exact h.two _ hg hx)
  refine ⟨⟨hO', h.cache.mod hm (fun b hb e => e.elim (fun e => h.noS (e ▸ hb)) (fun e => (h.noH b e).1 hb)) h0 (hoff c (fun e => h.ne.1 e.symm) fun x hx e => (h.noH x hx).2.2.1 e.symm) (hoff m (fun e => h.ne.2 e.symm) fun x hx e => (h.noH x hx).2.2.2 e.symm), ⟨wf, B1, nb, c2, ad, mp, hf1, hf2, hf3.trans hbel⟩, hot, hrow, h.noL, fun b hb => ?_, fun b hb => ?_, h.low, h.lows, h.noS, h.ne⟩, hbel, hm.sub fun b hb => (by unfold Foot8; rcases hb with e | e <;> simp [e]), fun b hb => (by unfold Foot8 at hb ⊢; rcases hb with e | e | e | e | e | e <;> first | (refine (hH' b e).elim (fun e => .inl (.inr (.inr (.inr (.inr (.inr e)))))) .inr; done) | (left; simp [e]; done))⟩
  · rcases hH' b hb with e | e
    · exact h.noH b e
    · exact ⟨fun e2 => by have := l4 b e2; omega, by omega, by omega, by omega⟩
  · intro e9
    rcases hH' b e9 with e | e
    · exact h.two b hb e
    · have := (row8_lt h.rowL b hb).2; omega
/-- One number more behind the row of the field 4. -/
theorem Run8.pushH {w w3 w4 : World} {B o a c fs m g' cap' f : Nat} {S : Nat → Prop} {F : List Nd} {s : St8} {Hl Hh : Option Addr} {cl ch : Nat} (h : Run8 w B o a c fs m S F s Hl cl Hh ch) (hb : Below w.heap.size w w3) (ho4 : OwnN w4 B (some ⟨g', 0, none⟩) cap' (s.h ++ [f]))
    (hg4 : w3.grownBy w4 (Hh.map (·.block))) (hat4 : Hh.map (·.block) = some g' ∨ g' = w3.heap.size) (hlt4 : g' < w4.heap.size) :
    Run8 (w4.setCell ⟨o, 4, none⟩ (.slice (some ⟨g', 0, none⟩) (s.h.length + 1) cap')) B o a c fs m S F ⟨s.p, s.L, s.clock, s.l, s.h ++ [f]⟩ Hl cl (some ⟨g', 0, none⟩) cap' ∧ Stay8 B (Foot8 S o c m Hl Hh) (Foot8 S o c m Hl (some ⟨g', 0, none⟩)) w (w4.setCell ⟨o, 4, none⟩ (.slice (some ⟨g', 0, none⟩) (s.h.length + 1) cap')) := by
  obtain ⟨l1, l2, l3, l4⟩ := h.lts
  have hz3 := hb.size
  have hz4 := hg4.size
  have hrb : ∀ k, Hh.map (·.block) = some k → Hh = some ⟨k, 0, none⟩ := fun k e => by
    rcases h.rowH.form with ⟨h9, _⟩ | ⟨g, h9, _⟩
    · rw [h9] at e; cases e
    · rw [h9] at e
      simp only [Option.map_some, Option.some.injEq] at e
      rw [h9, e]
  have hm24 : Mod (fun b => Hh = some ⟨b, 0, none⟩) w w4 := ⟨hg4.os.trans hb.os, hg4.tape.trans hb.tape, hg4.output.trans hb.output, by omega, fun b hbl hn => (hg4.block b (by omega) (fun e => hn (hrb b e.symm))).trans (hb.block b hbl)⟩
  have hm45 := mod_set (S := fun b => b = o) (w := w4) (b := o) rfl 4 (.slice (some ⟨g', 0, none⟩) (s.h.length + 1) cap')
  have hm25 : Mod (fun b => b = o ∨ Hh = some ⟨b, 0, none⟩) w (w4.setCell ⟨o, 4, none⟩ (.slice (some ⟨g', 0, none⟩) (s.h.length + 1) cap')) := (hm24.sub fun b hb => .inr hb).trans (Out.refl _ _) (hm45.sub fun b hb => .inl hb)
  have hHo : Hh ≠ some ⟨o, 0, none⟩ := fun e => (h.noH o e).2.1 rfl
  have hO4 := (hm24.block o l1 hHo).trans h.self
  have hgo : g' ≠ o := by
    rcases hat4 with e | e
    · exact fun e2 => hHo (e2 ▸ hrb g' e)
    · omega
  refine h.reH (H' := some ⟨g', 0, none⟩) (c' := cap') (l' := s.h ++ [f]) hm25 ?_ ?_ ?_
  · rw [List.length_append]
    have h8 := Joins.block_setCell (i := 4) hO4 (.slice (some ⟨g', 0, none⟩) (s.h.length + 1) cap')
    simpa using h8
  · exact ho4.same fun b hb => by
      injection hb with hb
      injection hb with hb
      subst hb
      exact hm45.block _ hlt4 hgo
  · intro b hb
    injection hb with hb
    injection hb with hb
    subst hb
    rcases hat4 with e | e
    · exact .inl (hrb _ e)
    · right; omega
/-- The object's cell behind the append. -/
theorem Run8.farH {w w3 w4 : World} {B o a c fs m : Nat} {S : Nat → Prop} {F : List Nd} {s : St8} {Hl Hh : Option Addr} {cl ch : Nat} (h : Run8 w B o a c fs m S F s Hl cl Hh ch) (hb : Below w.heap.size w w3) (hg4 : w3.grownBy w4 (Hh.map (·.block))) : w4.heap[o]? = w.heap[o]? := by
  obtain ⟨l1, l2, l3, l4⟩ := h.lts
  have hz3 := hb.size
  refine (hg4.block o (by omega) (fun e => ?_)).trans (hb.block o l1)
  rcases h.rowH.form with ⟨h9, _⟩ | ⟨g, h9, _⟩
  · rw [h9] at e; cases e
  · rw [h9] at e
    simp only [Option.map_some, Option.some.injEq] at e
    exact (h.noH g h9).2.1 e.symm

end Go.Proofs.YtmkgdgfbdmjeeaaDoor
