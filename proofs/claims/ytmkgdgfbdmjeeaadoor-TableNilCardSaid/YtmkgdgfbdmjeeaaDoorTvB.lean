/- Tables: what collects a visit's frames and leaves. -/
import Derived.Test.YtmkgdgfbdmjeeaaDoorTvA
import Derived.Test.YtmkgdgfbdmjeeaaDoorTbA
import Derived.Test.YtmkgdgfbdmjeeaaDoorTwC
namespace Go.Proofs.YtmkgdgfbdmjeeaaDoor
open Go.RowKit
set_option linter.unusedSimpArgs false
set_option linter.unusedVariables false

def pc (x : Nat × Leaf) : List Value := [.int .u64 ((x.1 * 4096 : Nat) : Int), .int .i64 (x.2.frame : Int), .int .u8 (x.2.prot : Int), .bool x.2.copy]
/-- A row of Puts of the call's own. -/
def OwnP (w : World) (base : Nat) (A : Option Addr) (cap : Nat) (l : List (Nat × Leaf)) : Prop := w.ownsRow base 61 4 (.slice A l.length cap) l.length (l.flatMap pc)
theorem put_info : (Tryd.prog.info? 61).map (fun i => (i.zero, i.size, i.bytes)) = some (some (.agg #[.int .u64 0, .int .i64 0, .int .u8 0, .bool false]), 4, 24) := by kernel_rfl

/-- What a row of the call's own bears. -/
structure RowLike {α : Type} (Own : World → Nat → Option Addr → Nat → List α → Prop) : Prop where
  same : ∀ {w w' : World} {base : Nat} {A : Option Addr} {cap : Nat} {l : List α}, Own w base A cap l → (∀ g, A = some ⟨g, 0, none⟩ → w'.heap[g]? = w.heap[g]?) → Own w' base A cap l
  form : ∀ {w : World} {base : Nat} {A : Option Addr} {cap : Nat} {l : List α}, Own w base A cap l → (A = none ∧ l = [] ∧ cap = 0) ∨ ∃ g, A = some ⟨g, 0, none⟩ ∧ base ≤ g ∧ g < w.heap.size ∧ l.length ≤ cap
theorem rowLikeN : RowLike OwnN := ⟨fun h hb => h.same hb, fun h => h.form⟩
theorem rowLikeP : RowLike OwnP := by
  constructor
  · intro w w' base A cap l h hb
    refine ⟨h.1, ?_⟩
    rcases h.2 with h2 | ⟨g, cap', cur, h1, h2, h3, h4⟩
    · exact .inl h2
    · injection h1 with e1 e2 e3
      exact .inr ⟨g, cap', cur, by rw [e1, e2, e3], h2, (hb g e1).trans h3, h4⟩
  · intro w base A cap l h
    rcases h.2 with ⟨h2, h3⟩ | ⟨g, cap', cur, h1, h2, h3, h4, _⟩
    · injection h2 with h4 h5 h6
      exact .inl ⟨h4, List.eq_nil_of_length_eq_zero h3, h6⟩
    · injection h1 with e1 e2 e3
      subst e3
      exact .inr ⟨g, e1, h2, (Array.getElem?_eq_some_iff.1 h3).1, h4⟩

/-- The captured variable at block bo holds the row of what was picked so far. -/
def Pick {α : Type} (Own : World → Nat → Option Addr → Nat → List α → Prop) (ty : TypeId) (F : Ev → List α) (base bo : Nat) : World → List Ev → (Nat → Prop) → Prop := fun w l X =>
  ∃ A cap, Own w base A cap (l.flatMap F) ∧ w.heap[bo]? = some (.cells #[.slice A (l.flatMap F).length cap] ty (0, 0)) ∧ (∀ g, A = some ⟨g, 0, none⟩ → g ≠ bo) ∧ ∀ b, X b ↔ b = bo ∨ A = some ⟨b, 0, none⟩
theorem Pick.stays {α : Type} {Own : World → Nat → Option Addr → Nat → List α → Prop} (hO : RowLike Own) {ty : TypeId} {F : Ev → List α} {base bo : Nat} : VisStays (Pick Own ty F base bo) := by
  rintro w w' l X ⟨A, cap, h1, h2, h3, h4⟩ hb
  refine ⟨A, cap, hO.same h1 fun g hg => ?_, (hb.block bo (Array.getElem?_eq_some_iff.1 h2).1).trans h2, h3, h4⟩
  rcases hO.form h1 with ⟨e, _⟩ | ⟨g', e, _, hlt, _⟩
  · rw [e] at hg; cases hg
  · rw [e] at hg; injection hg with hg; injection hg with hg; subst hg; exact hb.block _ hlt
/-- What is not picked turns nothing. -/
theorem Pick.pass {α : Type} {Own : World → Nat → Option Addr → Nat → List α → Prop} {ty : TypeId} {F : Ev → List α} {base bo : Nat} {w : World} {l : List Ev} {X : Nat → Prop} {e : Ev} {S : Nat → Prop} {t : Nat} (h : VisOk (Pick Own ty F base bo) S t w l X) (he : F e = []) :
    VisPost w X (Pick Own ty F base bo) S t (l ++ [e]) (.returned (.tuple #[])) w := by
  refine ⟨rfl, X, ⟨?_, h.low, h.apart, h.noT, h.no0⟩, Mod.refl _ _, Out.refl _ _⟩
  obtain ⟨A, cap, h1, h2, h3, h4⟩ := h.rel
  have e1 : (l ++ [e]).flatMap F = l.flatMap F := by simp [he]
  exact ⟨A, cap, by rw [e1]; exact h1, by rw [e1]; exact h2, h3, h4⟩
/-- One more is picked: its row turned, and the captured variable. -/
theorem Pick.more {α : Type} {Own : World → Nat → Option Addr → Nat → List α → Prop} (hO : RowLike Own) {ty : TypeId} {F : Ev → List α} {base bo : Nat} {w w0 w1 w2 : World} {l : List Ev} {X : Nat → Prop} {e : Ev} {x : α} {S : Nat → Prop} {t : Nat} (h : VisOk (Pick Own ty F base bo) S t w l X) (he : F e = [x])
    {A : Option Addr} {cap g cap' : Nat} (hX : ∀ b, X b ↔ b = bo ∨ A = some ⟨b, 0, none⟩) (hA : Own w base A cap (l.flatMap F)) (hb0 : Below w.heap.size w w0) (hg : w0.grownBy w1 (A.map (·.block))) (hat : A.map (·.block) = some g ∨ g = w0.heap.size) (hlt : g < w1.heap.size)
    (hown : Own w1 base (some ⟨g, 0, none⟩) cap' (l.flatMap F ++ [x])) (hAb : ∀ g, A = some ⟨g, 0, none⟩ → g ≠ bo) (hbo : bo < w.heap.size) (hSb : ∀ b, S b → b < base) (htb : t < base) (hb1 : 0 < base)
    (h2 : w2.heap[bo]? = some (.cells #[.slice (some ⟨g, 0, none⟩) (l.flatMap F ++ [x]).length cap'] ty (0, 0))) (hm2 : Mod (fun b => b = bo) w1 w2) (hz2 : w2.heap.size = w1.heap.size) :
    VisPost w X (Pick Own ty F base bo) S t (l ++ [e]) (.returned (.tuple #[])) w2 := by
  have hform := hO.form hA
  have hz0 := hb0.size
  have hz1 := hg.size
  have hgbo : g ≠ bo := by
    rcases hat with e | e
    · rcases hform with ⟨e', _⟩ | ⟨g', e', _, _, _⟩
      · rw [e'] at e; cases e
      · rw [e'] at e; injection e with e; exact e ▸ hAb g' e'
    · omega
  have hgb : base ≤ g := by
    rcases hO.form hown with ⟨e', _⟩ | ⟨g', e', h9, _, _⟩
    · cases e'
    · injection e' with e'; injection e' with e'; omega
  have hXA : ∀ b, A.map (·.block) = some b → X b := by
    intro b hb
    rcases hform with ⟨e', _⟩ | ⟨g', e', _, _, _⟩
    · rw [e'] at hb; cases hb
    · rw [e'] at hb; injection hb with hb; exact (hX b).2 (.inr (hb ▸ e'))
  have hm1 : Mod X w0 w1 := ⟨hg.os, hg.tape, hg.output, hg.size, fun b hb hn => hg.block b hb fun e => hn (hXA b e.symm)⟩
  have hXbo : X bo := (hX bo).2 (.inl rfl)
  have hmod : Mod X w w2 := ((Mod.of hb0).trans (Out.refl _ _) hm1).trans (Out.refl _ _) (hm2.sub fun b hb => hb ▸ hXbo)
  refine ⟨rfl, fun b => b = bo ∨ b = g, ⟨⟨some ⟨g, 0, none⟩, cap', ?_, ?_, fun g' e' => ?_, fun b => ?_⟩, ?_, ?_, ?_, ?_⟩, hmod, ?_⟩
  · rw [show (l ++ [e]).flatMap F = l.flatMap F ++ [x] from by simp [he]]
    refine hO.same hown fun g' e' => ?_
    injection e' with e'; injection e' with e'; subst e'
    exact hm2.block g hlt hgbo
  · rw [show (l ++ [e]).flatMap F = l.flatMap F ++ [x] from by simp [he]]
    exact h2
  · injection e' with e'; injection e' with e'; omega
  · constructor
    · rintro (rfl | rfl)
      · exact .inl rfl
      · exact .inr rfl
    · rintro (rfl | e')
      · exact .inl rfl
      · injection e' with e'; injection e' with e'; exact .inr e'.symm
  · rintro b (rfl | rfl)
    · omega
    · omega
  · intro b hb
    have h9 := hSb b hb
    rintro (rfl | rfl)
    · exact h.apart _ hb hXbo
    · omega
  · rintro (rfl | rfl)
    · exact h.noT hXbo
    · omega
  · rintro (e' | e')
    · exact h.no0 (e' ▸ hXbo)
    · omega
  · rintro b (rfl | rfl)
    · exact .inl hXbo
    · rcases hat with e' | e'
      · exact .inl (hXA _ e')
      · exact .inr (by omega)
theorem Pick.start {α : Type} {Own : World → Nat → Option Addr → Nat → List α → Prop} {ty : TypeId} {F : Ev → List α} {base bo : Nat} {w : World} {S : Nat → Prop} {t : Nat} (hO : Own w base none 0 []) (hb : w.heap[bo]? = some (.cells #[.slice none 0 0] ty (0, 0))) (hSb : ∀ b, S b → b ≠ bo) (ht : t ≠ bo) (h0 : bo ≠ 0) :
    VisOk (Pick Own ty F base bo) S t w [] (fun b => b = bo) :=
  ⟨⟨none, 0, hO, hb, fun g e => (by cases e), fun b => ⟨.inl, fun h => h.elim id (fun e => by cases e)⟩⟩, fun b e => e ▸ (Array.getElem?_eq_some_iff.1 hb).1, fun b hs e => hSb b hs e, fun e => ht e, fun e => h0 e.symm⟩

end Go.Proofs.YtmkgdgfbdmjeeaaDoor
