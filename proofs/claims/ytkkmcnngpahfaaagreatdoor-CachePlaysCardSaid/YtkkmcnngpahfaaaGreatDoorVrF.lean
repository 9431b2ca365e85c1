/- The cache of the program and the document's, in memory beside each other, and how they are turned. -/
import Derived.Test.YtkkmcnngpahfaaaGreatDoorDqC
import Derived.Test.YtkkmcnngpahfaaaGreatDoorVqE
import Derived.Test.YtkkmcnngpahfaaaGreatDoorTwA
namespace Go.Proofs.YtkkmcnngpahfaaaGreatDoor
open Go.RowKit Go.Sort
set_option linter.unusedSimpArgs false
set_option linter.unusedVariables false

def xP (S : Nat → Prop) (c m b : Nat) : Prop := S b ∨ b = m ∨ b = c
def xO (o : Nat) (Hl Hh : Option Addr) (b : Nat) : Prop := b = o ∨ Hl = some ⟨b, 0, none⟩ ∨ Hh = some ⟨b, 0, none⟩
/-- Where all of it lies. -/
structure Loc where
  B : Nat
  o : Nat
  a : Nat
  c : Nat
  fs : Nat
  m : Nat
  gd : Nat
structure Run2 (w : World) (x : Loc) (S : Nat → Prop) (y : DcW) (F : List Nd) (s : St8) (q : Pool) (D : List Slot) (Hl : Option Addr) (cl : Nat) (Hh : Option Addr) (ch : Nat) : Prop where
  self : w.heap[x.o]? = some (.cells #[.pointer (some ⟨x.a, 0, none⟩), .pointer (some ⟨x.c, 0, none⟩), .pointer (some ⟨y.z.q, 0, none⟩), .pointer (some ⟨y.d, 0, none⟩), .slice Hl s.l.length cl, .slice Hh s.h.length ch] 115 (0, 0))
  cache : CacheAt w S x.c x.a x.fs x.m s.clock s.p s.L
  doc : DcIs w x.B x.gd y q D
  files : ∃ w1 B1 nb c2 ad mp b3 R3 cap3 L3, w1.heap.size = x.B ∧ FsIs w1 B1 x.fs nb c2 ad mp F ∧ DocFs w1 b3 x.gd R3 cap3 L3 F ∧ Below x.B w1 w
  rowL : OwnN w x.B Hl cl s.l
  rowH : OwnN w x.B Hh ch s.h
  pd : ∀ b, xP S x.c x.m b → ¬ dcB y q.n b
  po : ∀ b, xP S x.c x.m b → ¬ xO x.o Hl Hh b
  ob : ∀ b, dcB y q.n b → ¬ xO x.o Hl Hh b
  two : Hl ≠ some ⟨x.o, 0, none⟩ ∧ Hh ≠ some ⟨x.o, 0, none⟩ ∧ ∀ b, Hl = some ⟨b, 0, none⟩ → Hh ≠ some ⟨b, 0, none⟩
  low : (∀ b, S b → x.B ≤ b) ∧ x.B ≤ x.o ∧ x.B ≤ x.c ∧ x.B ≤ x.m ∧ 0 < x.B
variable {w w0 w1 : World} {x : Loc} {S S' : Nat → Prop} {y y' : DcW} {F : List Nd} {s : St8} {q q' : Pool} {D D' : List Slot} {Hl Hh : Option Addr} {cl ch : Nat}
theorem row2_lt {w : World} {base : Nat} {A : Option Addr} {cap : Nat} {l : List Nat} (h : OwnN w base A cap l) : ∀ b, A = some ⟨b, 0, none⟩ → base ≤ b ∧ b < w.heap.size := fun b hb => by
  rcases h.form with ⟨e, _⟩ | ⟨g, e, h1, h2, _⟩
  · rw [e] at hb; cases hb
  · rw [e] at hb; injection hb with hb; injection hb with hb; subst hb; exact ⟨h1, h2⟩
theorem Run2.ltP (h : Run2 w x S y F s q D Hl cl Hh ch) : ∀ b, xP S x.c x.m b → x.B ≤ b ∧ b < w.heap.size := fun b e => by
  obtain ⟨l1, l2, l3, l4, l5⟩ := h.low
  rcases e with e | e | e
  · exact ⟨l1 b e, h.cache.pool.low b e⟩
  · subst e; exact ⟨l4, h.cache.lts.2.1⟩
  · subst e; exact ⟨l3, h.cache.lts.1⟩
theorem Run2.ltO (h : Run2 w x S y F s q D Hl cl Hh ch) : ∀ b, xO x.o Hl Hh b → x.B ≤ b ∧ b < w.heap.size := fun b e => by
  rcases e with e | e | e
  · subst e; exact ⟨h.low.2.1, (Array.getElem?_eq_some_iff.1 h.self).1⟩
  · exact row2_lt h.rowL b e
  · exact row2_lt h.rowH b e
theorem Run2.base (h : Run2 w x S y F s q D Hl cl Hh ch) : x.B ≤ w.heap.size := Nat.le_of_lt (Nat.lt_of_le_of_lt h.low.2.1 (h.ltO _ (.inl rfl)).2)
theorem Run2.fs (h : Run2 w x S y F s q D Hl cl Hh ch) {W : World} (hb : Below x.B w W) : (∃ B1 nb c2 ad mp, FsIs W B1 x.fs nb c2 ad mp F) ∧ ∃ b3 R3 cap3 L3, DocFs W b3 x.gd R3 cap3 L3 F := by
  obtain ⟨w1, B1, nb, c2, ad, mp, b3, R3, cap3, L3, h1, h2, h3, h4⟩ := h.files
  exact ⟨⟨B1, nb, c2, ad, mp, h2.below (by rw [h1]; exact h4.trans hb)⟩, b3, R3, cap3, L3, h3.kept (by rw [h1]; exact h4.trans hb)⟩
/-- The program's part is turned. -/
theorem Run2.prog {clock' : Int} {p' : Pool} {L' : List Slot} (h : Run2 w x S y F s q D Hl cl Hh ch) (hb0 : Below w.heap.size w w0) (hC : CacheAt w1 S' x.c x.a x.fs x.m clock' p' L') (hm : Mod (xP S x.c x.m) w0 w1) (ho : Out S S' w0) :
    Run2 w1 x S' y F ⟨p', L', clock', s.l, s.h⟩ q D Hl cl Hh ch ∧ Below x.B w w1 := by
  have hz0 := hb0.size
  have hz1 := hm.size
  have hB := h.base
  have key : ∀ b, b < w.heap.size → ¬ xP S x.c x.m b → w1.heap[b]? = w.heap[b]? := fun b hb hn => (hm.block b (by omega) hn).trans (hb0.block b hb)
  have hbel : Below x.B w w1 := ⟨hm.os.trans hb0.os, hm.tape.trans hb0.tape, hm.output.trans hb0.output, by omega, fun b hb => key b (by omega) fun e => by have := (h.ltP b e).1; omega⟩
  have hdk : ∀ b, dcB y q.n b → w1.heap[b]? = w.heap[b]? := fun b e => key b (h.doc.lt b e).2 fun e2 => h.pd b e2 e
  have hok : ∀ b, xO x.o Hl Hh b → w1.heap[b]? = w.heap[b]? := fun b e => key b (h.ltO b e).2 fun e2 => h.po b e2 e
  have hS' : ∀ b, xP S' x.c x.m b → xP S x.c x.m b ∨ w.heap.size ≤ b := fun b e => by
    rcases e with e | e
    · exact (ho b e).imp (fun e => .inl e) (fun e => by omega)
    · exact .inl (.inr e)
  obtain ⟨wf, B1, nb, c2, ad, mp, b3, R3, cap3, L3, f1, f2, f3, f4⟩ := h.files
  exact ⟨⟨(hok _ (.inl rfl)).trans h.self, hC, h.doc.same hdk, ⟨wf, B1, nb, c2, ad, mp, b3, R3, cap3, L3, f1, f2, f3, f4.trans hbel⟩, h.rowL.same fun g hg => hok g (.inr (.inl hg)), h.rowH.same fun g hg => hok g (.inr (.inr hg)),
    fun b e e2 => (hS' b e).elim (fun e3 => h.pd b e3 e2) fun e3 => by have := (h.doc.lt b e2).2; omega, fun b e e2 => (hS' b e).elim (fun e3 => h.po b e3 e2) fun e3 => by have := (h.ltO b e2).2; omega, h.ob, h.two,
    fun b e => (ho b e).elim (h.low.1 b) (fun e => by omega), h.low.2⟩, hbel⟩
/-- The document's part is turned. -/
theorem Run2.docs (h : Run2 w x S y F s q D Hl cl Hh ch) (hb0 : Below w.heap.size w w0) (hn : DcNext w0 x.B x.gd y q.n w1 y' q' D') : Run2 w1 x S y' F s q' D' Hl cl Hh ch ∧ Below x.B w w1 := by
  have hm := hn.mod
  have hz0 := hb0.size
  have hz1 := hm.size
  have hB := h.base
  have key : ∀ b, b < w.heap.size → ¬ dcB y q.n b → w1.heap[b]? = w.heap[b]? := fun b hb hn => (hm.block b (by omega) hn).trans (hb0.block b hb)
  have hbel : Below x.B w w1 := ⟨hm.os.trans hb0.os, hm.tape.trans hb0.tape, hm.output.trans hb0.output, by omega, fun b hb => key b (by omega) fun e => by have := (h.doc.lt b e).1; omega⟩
  have hpk : ∀ b, xP S x.c x.m b → w1.heap[b]? = w.heap[b]? := fun b e => key b (h.ltP b e).2 fun e2 => h.pd b e e2
  have hok : ∀ b, xO x.o Hl Hh b → w1.heap[b]? = w.heap[b]? := fun b e => key b (h.ltO b e).2 fun e2 => h.ob b e2 e
  have hD' : ∀ b, dcB y' q'.n b → dcB y q.n b ∨ w.heap.size ≤ b := fun b e => by
    rw [hn.n] at e
    exact (hn.out b e).imp id (fun e => by omega)
  have hz : w.heap.size ≤ w1.heap.size := by omega
  have h00 : w1.heap[0]? = w.heap[0]? := hbel.block 0 h.low.2.2.2.2
  obtain ⟨wf, B1, nb, c2, ad, mp, b3, R3, cap3, L3, f1, f2, f3, f4⟩ := h.files
  have hself := (hok _ (.inl rfl)).trans h.self
  rw [← hn.d.1, ← hn.d.2] at hself
  have hC : CacheAt w1 S x.c x.a x.fs x.m s.clock s.p s.L := ⟨h.cache.pool.same hz (fun b e => hpk b (.inl e)) h00, (hpk _ (.inr (.inr rfl))).trans h.cache.self, h.cache.slots.same (hpk _ (.inr (.inl rfl))), h.cache.noC, h.cache.noM⟩
  exact ⟨⟨hself, hC, hn.is, ⟨wf, B1, nb, c2, ad, mp, b3, R3, cap3, L3, f1, f2, f3, f4.trans hbel⟩, h.rowL.same fun g hg => hok g (.inr (.inl hg)), h.rowH.same fun g hg => hok g (.inr (.inr hg)),
    fun b e e2 => (hD' b e2).elim (fun e3 => h.pd b e e3) fun e3 => by have := (h.ltP b e).2; omega, h.po, fun b e e2 => (hD' b e).elim (fun e3 => h.ob b e3 e2) fun e3 => by have := (h.ltO b e2).2; omega, h.two, h.low⟩, hbel⟩
/-- The object's own part is turned. -/
theorem Run2.obj {Hl' Hh' : Option Addr} {cl' ch' : Nat} {l' h' : List Nat} (h : Run2 w x S y F s q D Hl cl Hh ch) (hm : Mod (xO x.o Hl Hh) w w1)
    (hs : w1.heap[x.o]? = some (.cells #[.pointer (some ⟨x.a, 0, none⟩), .pointer (some ⟨x.c, 0, none⟩), .pointer (some ⟨y.z.q, 0, none⟩), .pointer (some ⟨y.d, 0, none⟩), .slice Hl' l'.length cl', .slice Hh' h'.length ch'] 115 (0, 0)))
    (hl : OwnN w1 x.B Hl' cl' l') (hh : OwnN w1 x.B Hh' ch' h') (hO : ∀ b, xO x.o Hl' Hh' b → xO x.o Hl Hh b ∨ w.heap.size ≤ b) (ht : Hl' ≠ some ⟨x.o, 0, none⟩ ∧ Hh' ≠ some ⟨x.o, 0, none⟩ ∧ ∀ b, Hl' = some ⟨b, 0, none⟩ → Hh' ≠ some ⟨b, 0, none⟩) :
    Run2 w1 x S y F ⟨s.p, s.L, s.clock, l', h'⟩ q D Hl' cl' Hh' ch' ∧ Below x.B w w1 := by
  have hz1 := hm.size
  have hB := h.base
  have hbel : Below x.B w w1 := hm.below (fun b e => (h.ltO b e).1) hB
  have hpk : ∀ b, xP S x.c x.m b → w1.heap[b]? = w.heap[b]? := fun b e => hm.block b (h.ltP b e).2 (h.po b e)
  have hdk : ∀ b, dcB y q.n b → w1.heap[b]? = w.heap[b]? := fun b e => hm.block b (h.doc.lt b e).2 (h.ob b e)
  have h00 : w1.heap[0]? = w.heap[0]? := hbel.block 0 h.low.2.2.2.2
  obtain ⟨wf, B1, nb, c2, ad, mp, b3, R3, cap3, L3, f1, f2, f3, f4⟩ := h.files
  have hC : CacheAt w1 S x.c x.a x.fs x.m s.clock s.p s.L := ⟨h.cache.pool.same hz1 (fun b e => hpk b (.inl e)) h00, (hpk _ (.inr (.inr rfl))).trans h.cache.self, h.cache.slots.same (hpk _ (.inr (.inl rfl))), h.cache.noC, h.cache.noM⟩
  exact ⟨⟨hs, hC, h.doc.same hdk, ⟨wf, B1, nb, c2, ad, mp, b3, R3, cap3, L3, f1, f2, f3, f4.trans hbel⟩, hl, hh, h.pd, fun b e e2 => (hO b e2).elim (h.po b e) fun e3 => by have := (h.ltP b e).2; omega, fun b e e2 => (hO b e2).elim (h.ob b e) fun e3 => by have := (h.doc.lt b e).2; omega, ht, h.low⟩, hbel⟩
theorem Run2.below (h : Run2 w x S y F s q D Hl cl Hh ch) (hb : Below w.heap.size w w1) : Run2 w1 x S y F s q D Hl cl Hh ch := (h.prog hb (h.cache.below hb) (Mod.refl _ _) (Out.refl _ _)).1
/-- One number more behind a row: what the append has done. -/
theorem grown_mod {w w3 w4 : World} {H : Option Addr} {base cap : Nat} {l : List Nat} (hr : OwnN w base H cap l) (hb : Below w.heap.size w w3) (hg4 : w3.grownBy w4 (H.map (·.block))) : Mod (fun b => H = some ⟨b, 0, none⟩) w w4 ∧ ∀ k, H.map (·.block) = some k → H = some ⟨k, 0, none⟩ := by
  have hz3 := hb.size
  have hz4 := hg4.size
  have hrb : ∀ k, H.map (·.block) = some k → H = some ⟨k, 0, none⟩ := fun k e => by
    rcases hr.form with ⟨h9, _⟩ | ⟨g, h9, _⟩
    · rw [h9] at e; cases e
    · rw [h9] at e
      simp only [Option.map_some, Option.some.injEq] at e
      rw [h9, e]
  exact ⟨⟨hg4.os.trans hb.os, hg4.tape.trans hb.tape, hg4.output.trans hb.output, by omega, fun b hbl hn => (hg4.block b (by omega) (fun e => hn (hrb b e.symm))).trans (hb.block b hbl)⟩, hrb⟩
theorem Run2.pushL {w3 w4 : World} {g' cap' f : Nat} (h : Run2 w x S y F s q D Hl cl Hh ch) (hb : Below w.heap.size w w3) (ho4 : OwnN w4 x.B (some ⟨g', 0, none⟩) cap' (s.l ++ [f])) (hg4 : w3.grownBy w4 (Hl.map (·.block))) (hat4 : Hl.map (·.block) = some g' ∨ g' = w3.heap.size) (hlt4 : g' < w4.heap.size) :
    Run2 (w4.setCell ⟨x.o, 4, none⟩ (.slice (some ⟨g', 0, none⟩) (s.l.length + 1) cap')) x S y F ⟨s.p, s.L, s.clock, s.l ++ [f], s.h⟩ q D (some ⟨g', 0, none⟩) cap' Hh ch ∧ Below x.B w (w4.setCell ⟨x.o, 4, none⟩ (.slice (some ⟨g', 0, none⟩) (s.l.length + 1) cap')) := by
  obtain ⟨hm24, hrb⟩ := grown_mod h.rowL hb hg4
  have hz3 := hb.size
  have l1 := (h.ltO _ (.inl rfl)).2
  have hm45 := mod_set (S := fun b => b = x.o) (w := w4) (b := x.o) rfl 4 (.slice (some ⟨g', 0, none⟩) (s.l.length + 1) cap')
  have hm25 : Mod (xO x.o Hl Hh) w (w4.setCell ⟨x.o, 4, none⟩ (.slice (some ⟨g', 0, none⟩) (s.l.length + 1) cap')) := (hm24.sub fun b hb => .inr (.inl hb)).trans (Out.refl _ _) (hm45.sub fun b hb => .inl hb)
  have hO4 := (hm24.block x.o l1 h.two.1).trans h.self
  have hnew : Hl = some ⟨g', 0, none⟩ ∨ w.heap.size ≤ g' := hat4.imp (hrb g') (fun e => by omega)
  have hgo : g' ≠ x.o := hnew.elim (fun e e2 => h.two.1 (e2 ▸ e)) (fun e => by omega)
  refine h.obj (Hl' := some ⟨g', 0, none⟩) (cl' := cap') (l' := s.l ++ [f]) (h' := s.h) hm25 ?_ ?_ ?_ (fun b e => ?_) ⟨fun e => hgo (by injection e with e; injection e with e), h.two.2.1, fun b e e2 => ?_⟩
  · rw [List.length_append]
    have h8 := Joins.block_setCell (i := 4) hO4 (.slice (some ⟨g', 0, none⟩) (s.l.length + 1) cap')
    simpa using h8
  · exact ho4.same fun b hb => by
      injection hb with hb
      injection hb with hb
      subst hb
      exact hm45.block _ hlt4 hgo
  · exact h.rowH.same fun b e => (hm45.block b (Nat.lt_of_lt_of_le (row2_lt h.rowH b e).2 hm24.size) (fun e2 => h.two.2.1 (e2 ▸ e))).trans (hm24.block b (row2_lt h.rowH b e).2 fun e2 => h.two.2.2 b e2 e)
  · rcases e with e | e | e
    · exact .inl (.inl e)
    · injection e with e
      injection e with e
      subst e
      exact hnew.imp (fun e => .inr (.inl e)) id
    · exact .inl (.inr (.inr e))
  · injection e with e
    injection e with e
    subst e
    exact hnew.elim (fun e => h.two.2.2 _ e e2) fun e => by have := (row2_lt h.rowH _ e2).2; omega
theorem Run2.reH {w4 : World} {H' : Option Addr} {cap' : Nat} {h' : List Nat} (h : Run2 w x S y F s q D Hl cl Hh ch) (hm24 : Mod (fun b => Hh = some ⟨b, 0, none⟩) w w4) (ho4 : OwnN w4 x.B H' cap' h') (hnew : ∀ b, H' = some ⟨b, 0, none⟩ → Hh = some ⟨b, 0, none⟩ ∨ w.heap.size ≤ b) :
    Run2 (w4.setCell ⟨x.o, 5, none⟩ (.slice H' h'.length cap')) x S y F ⟨s.p, s.L, s.clock, s.l, h'⟩ q D Hl cl H' cap' ∧ Below x.B w (w4.setCell ⟨x.o, 5, none⟩ (.slice H' h'.length cap')) := by
  have l1 := (h.ltO _ (.inl rfl)).2
  have hm45 := mod_set (S := fun b => b = x.o) (w := w4) (b := x.o) rfl 5 (.slice H' h'.length cap')
  have hm25 : Mod (xO x.o Hl Hh) w (w4.setCell ⟨x.o, 5, none⟩ (.slice H' h'.length cap')) := (hm24.sub fun b hb => .inr (.inr hb)).trans (Out.refl _ _) (hm45.sub fun b hb => .inl hb)
  have hO4 := (hm24.block x.o l1 h.two.2.1).trans h.self
  have hgo : ∀ b, H' = some ⟨b, 0, none⟩ → b ≠ x.o := fun b e => (hnew b e).elim (fun e e2 => h.two.2.1 (e2 ▸ e)) (fun e => by omega)
  refine h.obj (Hl' := Hl) (cl' := cl) (l' := s.l) (Hh' := H') (ch' := cap') (h' := h') hm25 ?_ ?_ ?_ (fun b e => ?_) ⟨h.two.1, fun e => hgo _ e rfl, fun b e e2 => ?_⟩
  · exact Joins.block_setCell (i := 5) hO4 (.slice H' h'.length cap')
  · exact h.rowL.same fun b e => (hm45.block b (Nat.lt_of_lt_of_le (row2_lt h.rowL b e).2 hm24.size) (fun e2 => h.two.1 (e2 ▸ e))).trans (hm24.block b (row2_lt h.rowL b e).2 fun e2 => h.two.2.2 b e e2)
  · exact ho4.same fun b hb => hm45.block _ (row2_lt ho4 b hb).2 (hgo b hb)
  · rcases e with e | e | e
    · exact .inl (.inl e)
    · exact .inl (.inr (.inl e))
    · exact (hnew b e).imp (fun e => .inr (.inr e)) id
  · exact (hnew b e2).elim (fun e3 => h.two.2.2 b e e3) fun e3 => by have := (row2_lt h.rowL b e).2; omega
theorem Run2.pushH {w3 w4 : World} {g' cap' f : Nat} (h : Run2 w x S y F s q D Hl cl Hh ch) (hb : Below w.heap.size w w3) (ho4 : OwnN w4 x.B (some ⟨g', 0, none⟩) cap' (s.h ++ [f])) (hg4 : w3.grownBy w4 (Hh.map (·.block))) (hat4 : Hh.map (·.block) = some g' ∨ g' = w3.heap.size) :
    Run2 (w4.setCell ⟨x.o, 5, none⟩ (.slice (some ⟨g', 0, none⟩) (s.h.length + 1) cap')) x S y F ⟨s.p, s.L, s.clock, s.l, s.h ++ [f]⟩ q D Hl cl (some ⟨g', 0, none⟩) cap' ∧ Below x.B w (w4.setCell ⟨x.o, 5, none⟩ (.slice (some ⟨g', 0, none⟩) (s.h.length + 1) cap')) := by
  obtain ⟨hm24, hrb⟩ := grown_mod h.rowH hb hg4
  have hz3 := hb.size
  have h9 := h.reH hm24 ho4 (fun b e => by
    injection e with e
    injection e with e
    subst e
    exact hat4.imp (hrb g') (fun e => by omega))
  rw [List.length_append, List.length_singleton] at h9
  exact h9

end Go.Proofs.YtkkmcnngpahfaaaGreatDoor
