/- The document's pool, as it lies in memory: the counts, and a row of bytes for each frame. -/
import Derived.Test.YtkkmcnngpahfaaaGreatDoorHrF
import Derived.Test.YtkkmcnngpahfaaaGreatDoorByA
namespace Go.Proofs.YtkkmcnngpahfaaaGreatDoor
open Go.RowKit Go.Sort
set_option linter.unusedSimpArgs false
set_option linter.unusedVariables false

theorem OwnB.sameG {w w' : World} {base cap n : Nat} {A : Option Addr} {d : Nat → Nat} (h : OwnB w base A cap n d) (hb : ∀ g, A = some ⟨g, 0, none⟩ → w'.heap[g]? = w.heap[g]?) : OwnB w' base A cap n d := .ofG (h.toG.same hb)
/-- Where the document's pool lies. -/
structure DpW where
  q : Nat
  kc : Nat
  kb : Nat
  R : Nat → Option Addr
  l : Nat → Nat
  cp : Nat → Nat
def dpB (z : DpW) (n b : Nat) : Prop := b = z.q ∨ b = z.kc ∨ b = z.kb ∨ ∃ i, i < n ∧ z.R i = some ⟨b, 0, none⟩
structure DpIs (w : World) (B : Nat) (z : DpW) (p : Pool) : Prop where
  self : w.heap[z.q]? = some (.cells #[.slice (some ⟨z.kc, 0, none⟩) p.n p.n, .slice (some ⟨z.kb, 0, none⟩) p.n p.n] 170 (0, 0))
  counts : w.heap[z.kc]? = some (.cells (rowV p.n fun i => .int .i64 (p.cnt i : Int)) 3 (0, 0))
  rows : w.heap[z.kb]? = some (.cells (rowV p.n fun i => .slice (z.R i) (z.l i) (z.cp i)) 99 (0, 0))
  low : B ≤ z.q ∧ B ≤ z.kc ∧ B ≤ z.kb
  row : ∀ i, i < p.n → OwnB w B (z.R i) (z.cp i) (z.l i) (p.dat i)
  zero : ∀ i, i < p.n → z.l i ≤ 4096 ∧ ∀ j, z.l i ≤ j → j < 4096 → p.dat i j = 0
  own : ∀ i j, i < p.n → j < p.n → z.R i = z.R j → z.R i ≠ none → i = j
  few : p.n ≤ 1024
variable {w w' : World} {B : Nat} {z z' : DpW} {p p' : Pool}
theorem OwnB.typeU {base cap n g : Nat} {A : Option Addr} {d : Nat → Nat} (h : OwnB w base A cap n d) (e : A = some ⟨g, 0, none⟩) : ∃ cur, w.heap[g]? = some (.cells cur 5 (0, 0)) := row_type h e
theorem DpIs.apart (h : DpIs w B z p) : z.q ≠ z.kc ∧ z.q ≠ z.kb ∧ z.kc ≠ z.kb ∧ ∀ i g, i < p.n → z.R i = some ⟨g, 0, none⟩ → g ≠ z.q ∧ g ≠ z.kc ∧ g ≠ z.kb :=
  ⟨two_types h.self h.counts (by decide), two_types h.self h.rows (by decide), two_types h.counts h.rows (by decide), fun i g hi e => by
    obtain ⟨cur, hg⟩ := (h.row i hi).typeU e
    exact ⟨two_types hg h.self (by decide), two_types hg h.counts (by decide), two_types hg h.rows (by decide)⟩⟩
theorem DpIs.lt (h : DpIs w B z p) : ∀ b, dpB z p.n b → B ≤ b ∧ b < w.heap.size := fun b e => by
  rcases e with rfl | rfl | rfl | ⟨i, hi, e⟩
  · exact ⟨h.low.1, (Array.getElem?_eq_some_iff.1 h.self).1⟩
  · exact ⟨h.low.2.1, (Array.getElem?_eq_some_iff.1 h.counts).1⟩
  · exact ⟨h.low.2.2, (Array.getElem?_eq_some_iff.1 h.rows).1⟩
  · have h1 := h.row i hi
    rw [e] at h1
    exact h1.form
theorem DpIs.same (h : DpIs w B z p) (hb : ∀ b, dpB z p.n b → w'.heap[b]? = w.heap[b]?) : DpIs w' B z p :=
  ⟨(hb _ (.inl rfl)).trans h.self, (hb _ (.inr (.inl rfl))).trans h.counts, (hb _ (.inr (.inr (.inl rfl)))).trans h.rows, h.low, fun i hi => (h.row i hi).sameG fun g e => hb g (.inr (.inr (.inr ⟨i, hi, e⟩))), h.zero, h.own, h.few⟩
theorem DpIs.kept (h : DpIs w B z p) (hb : Below w.heap.size w w') : DpIs w' B z p := h.same fun b e => hb.block b (h.lt b e).2
/-- What turned the pool keeps all else. -/
structure DpNext (w : World) (B : Nat) (z : DpW) (N : Nat) (w' : World) (z' : DpW) (p' : Pool) : Prop where
  is : DpIs w' B z' p'
  q : z'.q = z.q
  n : p'.n = N
  mod : Mod (dpB z N) w w'
  out : Out (dpB z N) (dpB z' N) w
theorem DpNext.refl (h : DpIs w B z p) : DpNext w B z p.n w z p := ⟨h, rfl, rfl, Mod.refl _ _, Out.refl _ _⟩
theorem DpNext.kept (h : DpIs w B z p) (hb : Below w.heap.size w w') : DpNext w B z p.n w' z p := ⟨h.kept hb, rfl, rfl, Mod.of hb, Out.refl _ _⟩
theorem DpNext.trans {n : Nat} {w1 : World} {z1 : DpW} {p1 : Pool} (h : DpNext w B z n w1 z1 p1) (k : DpNext w1 B z1 n w' z' p') : DpNext w B z n w' z' p' :=
  ⟨k.is, k.q.trans h.q, k.n, h.mod.trans h.out k.mod, h.out.trans k.out h.mod.size⟩
theorem DpNext.below {n : Nat} (h : DpNext w B z n w' z' p') (hi : DpIs w B z p) (hn : p.n = n) (hB : B ≤ w.heap.size) : Below B w w' := h.mod.below (fun b e => (hi.lt b (by rw [hn]; exact e)).1) hB

/-- A count is set. -/
theorem DpIs.setCnt (h : DpIs w B z p) {f x : Nat} (hf : f < p.n) : DpNext w B z p.n (w.setCell ⟨z.kc, f, none⟩ (.int .i64 (x : Int))) z ⟨p.n, upd p.cnt f x, p.dat⟩ := by
  obtain ⟨n1, n2, n3, n4⟩ := h.apart
  refine ⟨⟨?_, ?_, ?_, h.low, fun i hi => (h.row i hi).sameG fun g e => Below.heap_setCell _ _ _ _ (n4 i g hi e).2.1, h.zero, h.own, h.few⟩, rfl, rfl, mod_set (S := dpB z p.n) (.inr (.inl rfl)) f _, Out.refl _ _⟩
  · exact (Below.heap_setCell _ _ _ _ n1).trans h.self
  · rw [Joins.block_setCell h.counts, rowV_set, rowV_upd p.n (fun x => Value.int .i64 (x : Nat)) p.cnt f x]
  · exact (Below.heap_setCell _ _ _ _ n3.symm).trans h.rows
/-- A frame's row is another one, or turned. -/
theorem DpIs.setRow {w4 : World} (h : DpIs w B z p) {f c n : Nat} {A : Option Addr} {d : Nat → Nat} (hm : Mod (fun b => z.R f = some ⟨b, 0, none⟩) w w4) (hf : f < p.n) (ho : OwnB w4 B A c n d) (hz : n ≤ 4096 ∧ ∀ j, n ≤ j → j < 4096 → d j = 0) (hnew : A = z.R f ∨ ∀ g, A = some ⟨g, 0, none⟩ → w.heap.size ≤ g) :
    DpNext w B z p.n (w4.setCell ⟨z.kb, f, none⟩ (.slice A n c)) { z with R := upd z.R f A, l := upd z.l f n, cp := upd z.cp f c } ⟨p.n, p.cnt, upd p.dat f d⟩ := by
  obtain ⟨n1, n2, n3, n4⟩ := h.apart
  have hl := h.lt
  have hother : ∀ i, i < p.n → i ≠ f → ∀ g, z.R i = some ⟨g, 0, none⟩ → w4.heap[g]? = w.heap[g]? := fun i hi hne g e => hm.block g (hl g (.inr (.inr (.inr ⟨i, hi, e⟩)))).2 fun e2 => hne (h.own i f hi hf (e.trans e2.symm) (by rw [e]; simp))
  have hk : ∀ g, A = some ⟨g, 0, none⟩ → g ≠ z.kb := fun g e => hnew.elim (fun e2 => (n4 f g hf (e2.symm.trans e)).2.2) (fun h9 => by have := h9 g e; have := (hl z.kb (.inr (.inr (.inl rfl)))).2; omega)
  have hms := mod_set (S := fun b => b = z.kb) (w := w4) (b := z.kb) rfl f (.slice A n c)
  have q4 := (hm.block _ (hl _ (.inl rfl)).2 fun e => (n4 f _ hf e).1 rfl).trans h.self
  have c4 := (hm.block _ (hl _ (.inr (.inl rfl))).2 fun e => (n4 f _ hf e).2.1 rfl).trans h.counts
  have b4 := (hm.block _ (hl _ (.inr (.inr (.inl rfl)))).2 fun e => (n4 f _ hf e).2.2 rfl).trans h.rows
  refine ⟨⟨?_, ?_, ?_, h.low, fun i hi => ?_, fun i hi => ?_, fun i j hi hj e hne => ?_, h.few⟩, rfl, rfl, (hm.sub (T := dpB z p.n) fun b e => .inr (.inr (.inr ⟨f, hf, e⟩))).trans (Out.refl _ _) (hms.sub fun b e => .inr (.inr (.inl e))), fun b e => ?_⟩
  · exact (Below.heap_setCell _ _ _ _ n2).trans q4
  · exact (Below.heap_setCell _ _ _ _ n3).trans c4
  · rw [Joins.block_setCell b4, rowV_set]
    refine congrArg some ?_
    congr 1
    refine rowV_congr fun i _ => ?_
    by_cases e : i = f
    · subst e; simp only [upd_same]
    · simp only [upd_ne _ _ e]
  · by_cases e : i = f
    · subst e; simp only [upd_same]
      exact ho.sameG fun g e => Below.heap_setCell _ _ _ _ (hk g e)
    · simp only [upd_ne _ _ e]
      exact (h.row i hi).sameG fun g e2 => (Below.heap_setCell _ _ _ _ (n4 i g hi e2).2.2).trans (hother i hi e g e2)
  · by_cases e : i = f
    · subst e; simp only [upd_same]; exact hz
    · simp only [upd_ne _ _ e]; exact h.zero i hi
  · have hs : ∀ i, i < p.n → i ≠ f → A ≠ none → z.R i ≠ A := fun i hi hne hA e => hnew.elim (fun e2 => hne (h.own i f hi hf (e.trans e2) (by rw [e]; exact hA))) fun h9 => by
      rcases (h.row i hi).formA with ⟨e3, _⟩ | ⟨g, e3, _, e4⟩
      · exact hA (e.symm.trans e3)
      · have := h9 g (e.symm.trans e3); omega
    by_cases e1 : i = f
    · subst e1
      by_cases e2 : j = i
      · exact e2.symm
      · simp only [upd_same, upd_ne _ _ e2] at e hne
        exact absurd e.symm (hs j hj e2 hne)
    · by_cases e2 : j = f
      · subst e2
        simp only [upd_same, upd_ne _ _ e1] at e hne
        exact absurd e (hs i hi e1 (by rw [← e]; exact hne))
      · simp only [upd_ne _ _ e1, upd_ne _ _ e2] at e hne
        exact h.own i j hi hj e hne
  · rcases e with e | e | e | ⟨i, hi, e⟩
    · exact .inl (.inl e)
    · exact .inl (.inr (.inl e))
    · exact .inl (.inr (.inr (.inl e)))
    · by_cases e1 : i = f
      · subst e1
        simp only [upd_same] at e
        exact hnew.elim (fun e2 => .inl (.inr (.inr (.inr ⟨i, hi, e2.symm.trans e⟩)))) fun h9 => .inr (h9 b e)
      · simp only [upd_ne _ _ e1] at e; exact .inl (.inr (.inr (.inr ⟨i, hi, e⟩)))
/-- A frame's row is none. -/
theorem DpIs.noRow (h : DpIs w B z p) {f : Nat} (hf : f < p.n) : DpNext w B z p.n (w.setCell ⟨z.kb, f, none⟩ (.slice none 0 0)) { z with R := upd z.R f none, l := upd z.l f 0, cp := upd z.cp f 0 } ⟨p.n, p.cnt, upd p.dat f fun _ => 0⟩ :=
  h.setRow (Mod.refl _ _) hf (ownB_nil _ _ _) ⟨by omega, fun _ _ _ => rfl⟩ (.inr fun g e => by cases e)
theorem upd_twice {α : Type} (f : Nat → α) (i : Nat) (x y : α) : upd (upd f i x) i y = upd f i y := by
  funext j
  by_cases e : j = i
  · subst e; rw [upd_same, upd_same]
  · rw [upd_ne _ _ e, upd_ne _ _ e, upd_ne _ _ e]
theorem upd_self {α : Type} (f : Nat → α) (i : Nat) : upd f i (f i) = f := by
  funext j
  by_cases e : j = i
  · subst e; rw [upd_same]
  · rw [upd_ne _ _ e]
/-- A byte of a frame is set. -/
theorem DpIs.poke (h : DpIs w B z p) {f i g x : Nat} (hf : f < p.n) (hR : z.R f = some ⟨g, 0, none⟩) (hi : i < z.l f) : DpNext w B z p.n (w.setCell ⟨g, i, none⟩ (.int .u8 (x : Int))) z ⟨p.n, p.cnt, upd p.dat f (upd (p.dat f) i x)⟩ := by
  obtain ⟨n1, n2, n3, n4⟩ := h.apart
  obtain ⟨g1, g2, g3⟩ := n4 f g hf hR
  have hr := h.row f hf
  rw [hR] at hr
  refine ⟨⟨(Below.heap_setCell _ _ _ _ g1.symm).trans h.self, (Below.heap_setCell _ _ _ _ g2.symm).trans h.counts, (Below.heap_setCell _ _ _ _ g3.symm).trans h.rows, h.low, fun j hj => ?_, fun j hj => ?_, h.own, h.few⟩, rfl, rfl, mod_set (S := dpB z p.n) (.inr (.inr (.inr ⟨f, hf, hR⟩))) i _, Out.refl _ _⟩
  · by_cases e : j = f
    · subst e; simp only [upd_same]
      rw [hR]
      exact hr.put hi
    · simp only [upd_ne _ _ e]
      exact (h.row j hj).sameG fun b e2 => Below.heap_setCell _ _ _ _ fun e3 => e (h.own j f hj hf (by rw [e2, hR, e3]) (by rw [e2]; simp))
  · by_cases e : j = f
    · subst e; simp only [upd_same]
      refine ⟨(h.zero j hj).1, fun k h1 h2 => ?_⟩
      rw [upd_ne _ _ (by omega)]
      exact (h.zero j hj).2 k h1 h2
    · simp only [upd_ne _ _ e]; exact h.zero j hj
/-- The cells of a pool. -/
theorem DpIs.c (h : DpIs w B z p) : w.cell? ⟨z.q, 0, none⟩ = some (.slice (some ⟨z.kc, 0, none⟩) p.n p.n) ∧ w.cell? ⟨z.q, 1, none⟩ = some (.slice (some ⟨z.kb, 0, none⟩) p.n p.n) := ⟨one_block h.self 0, one_block h.self 1⟩

end Go.Proofs.YtkkmcnngpahfaaaGreatDoor
