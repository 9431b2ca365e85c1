/- The cache's laws: the methods at the object of the laws; what comes in, too great or not. -/
import Derived.Test.YtmkgdgfbdmjeeaaDoorVqO
import Derived.Test.YtmkgdgfbdmjeeaaDoorLwL
import Derived.Test.YtmkgdgfbdmjeeaaDoorPsA
namespace Go.Proofs.YtmkgdgfbdmjeeaaDoor
open Go.RowKit Go.Sort
set_option linter.unusedSimpArgs false
set_option linter.unusedVariables false

theorem take8 (B o a c fs m cl ch : Nat) (w : World) (S : Nat → Prop) (F : List Nd) (s : St8) (Hl Hh : Option Addr) (h : Run8 w B o a c fs m S F s Hl cl Hh ch) :
    Calls Tryd.prog 35 #[.pointer (some ⟨c, 0, none⟩)] w fun e w1 => ∃ r f p' L' S', e = .returned (.tuple #[.int .i64 (f : Nat), .int .i64 r]) ∧ Hid (Run8 w1 B o a c fs m S' F ⟨p', L', s.clock, s.l, s.h⟩ Hl cl Hh ch) ∧ Hid (Stay8 B (Foot8 S o c m Hl Hh) (Foot8 S' o c m Hl Hh) w w1) ∧ Hid (TakeRes s.p s.L r f p' L') := by
  refine (ctake_any c a fs m s.clock w S s.p s.L h.cache).mono ?_
  rintro e w1 ⟨r, f, p', L', S', rfl, hC1, hm1', ho1', hres⟩
  have hm1 : Mod (fun b => S b ∨ b = m ∨ b = c) w w1 := hm1'.sub (fun b hb => hb.elim .inl fun e => .inr (.inl e))
  obtain ⟨hrun1, hbel1⟩ := h.turn (Below.refl _ _) hC1 hm1 ho1'
  exact ⟨r, f, p', L', S', rfl, Lib.hid hrun1, Lib.hid hbel1, Lib.hid hres⟩
theorem get8 (B o a c fs m n k cl ch : Nat) (ino page : Int) (w : World) (S : Nat → Prop) (F : List Nd) (s : St8) (ext : Nat → Nat) (Hl Hh : Option Addr) (h : Run8 w B o a c fs m S F s Hl cl Hh ch) (hf : s.Fine F ext n k) (hk : k ≤ 100000) (hby : BytesF F) (hi : (Lit.int .i64 ino).wf = true) :
    Calls Tryd.prog 36 #[.pointer (some ⟨c, 0, none⟩), .int .i64 ino, .int .i64 page] w fun e w1 => ∃ r f p' L' clock' S', e = .returned (.tuple #[.int .i64 (f : Nat), .int .i64 r]) ∧ Hid (Run8 w1 B o a c fs m S' F ⟨p', L', clock', s.l, s.h⟩ Hl cl Hh ch) ∧ Hid (Stay8 B (Foot8 S o c m Hl Hh) (Foot8 S' o c m Hl Hh) w w1) ∧ Hid (GetF F ino page s.p s.L s.clock r f p' L' clock') := by
  obtain ⟨B1, nb, c2, ad, mp, hFs⟩ := h.fs (Below.refl _ _)
  have hfew := hf.few
  refine (cget_any B1 nb c2 c a fs m ad mp F ino page s.clock w S s.p s.L h.cache hFs hby hi ⟨by omega, by omega⟩).mono ?_
  rintro e w1 ⟨r, f, p', L', clock', S', rfl, hC1, hm1, ho1', hres⟩
  obtain ⟨hrun1, hbel1⟩ := h.turn (Below.refl _ _) hC1 hm1 ho1'
  exact ⟨r, f, p', L', clock', S', rfl, Lib.hid hrun1, Lib.hid hbel1, Lib.hid hres⟩
theorem drop8 (B o a c fs m n k cl ch : Nat) (w : World) (S : Nat → Prop) (F : List Nd) (s : St8) (ext : Nat → Nat) (Hl Hh : Option Addr) (h : Run8 w B o a c fs m S F s Hl cl Hh ch) (hf : s.Fine F ext n k) :
    Calls Tryd.prog 28 #[.pointer (some ⟨c, 0, none⟩)] w fun e w1 => e = .returned (.tuple #[]) ∧ Hid (Run8 w1 B o a c fs m S F ⟨dropTo s.p s.L [], [], s.clock, s.l, s.h⟩ Hl cl Hh ch) ∧ Hid (Stay8 B (Foot8 S o c m Hl Hh) (Foot8 S o c m Hl Hh) w w1) := by
  have hcnt : ∀ x ∈ s.L, x.frame < s.p.n ∧ slotN s.L x.frame ≤ s.p.cnt x.frame := fun x hx => by
    have h1 := hf.slow x hx
    have h2 : s.p.cnt x.frame = slotN s.L x.frame + (cntL s.h x.frame + ext x.frame) := hf.even x.frame (by rw [hf.size]; exact h1)
    exact ⟨by rw [hf.size]; exact h1, by omega⟩
  refine (drop_any c a fs m s.clock w S s.p s.L h.cache hcnt).mono ?_
  rintro e w1 ⟨rfl, hC1, hm1'⟩
  have hm1 : Mod (fun b => S b ∨ b = m ∨ b = c) w w1 := hm1'.sub (fun b hb => hb.elim .inl fun e => .inr (.inl e))
  obtain ⟨hrun1, hbel1⟩ := h.turn (Below.refl _ _) hC1 hm1 (Out.refl _ _)
  exact ⟨rfl, Lib.hid hrun1, Lib.hid hbel1⟩
theorem slots8 (B o a c fs m n k cl ch : Nat) (w : World) (S : Nat → Prop) (F : List Nd) (s : St8) (ext : Nat → Nat) (Hl Hh : Option Addr) (h : Run8 w B o a c fs m S F s Hl cl Hh ch) (hf : s.Fine F ext n k) (hk : k < 100000) (hF : F.length ≤ 1000) :
    Calls Tryd.prog 40 #[.pointer (some ⟨c, 0, none⟩)] w (SlotsPost w s.L) :=
  slots_any c a fs m s.clock w s.L h.cache.self h.cache.slots (by have := hf.few; omega) (hf.small hF)
theorem size8 (B o a c fs m n k cl ch : Nat) (w : World) (S : Nat → Prop) (F : List Nd) (s : St8) (ext : Nat → Nat) (Hl Hh : Option Addr) (h : Run8 w B o a c fs m S F s Hl cl Hh ch) (hf : s.Fine F ext n k) :
    Calls Tryd.prog 29 #[.pointer (some ⟨a, 0, none⟩)] w fun e w' => e = .returned (.int .i64 (n : Int)) ∧ w = w' := by
  have h9 := psize_any a w S s.p h.cache.pool
  rw [hf.size] at h9
  exact h9
theorem count8 (B o a c fs m n k cl ch f : Nat) (w : World) (S : Nat → Prop) (F : List Nd) (s : St8) (ext : Nat → Nat) (Hl Hh : Option Addr) (h : Run8 w B o a c fs m S F s Hl cl Hh ch) (hf : s.Fine F ext n k) (hl : f < n) :
    Calls Tryd.prog 30 #[.pointer (some ⟨a, 0, none⟩), .int .i64 (f : Int)] w fun e w' => e = .returned (.int .i64 (s.p.cnt f : Int)) ∧ w = w' := by
  have h9 := count_any a (f : Int) w S s.p h.cache.pool
  rw [countB_nat (by rw [hf.size]; exact hl)] at h9
  exact h9

def LawPost8 (w : World) (e : Ending) (w' : World) : Prop := e = .returned (.bool true) ∧ Below w.heap.size w w'
/-- What is more than a law plays. -/
def Huge8 (w : World) (P : Option Addr) (n k : Nat) (N : Int) : Prop := (200 : Int) < (k : Int) ∨ 64 < N ∨ (64 : Int) < (n : Int) ∨ ∃ l, EntsIn w P l ∧ n = l.length ∧ greatN 0 l = true ∧ n ≤ 64 ∧ N ≤ 64 ∧ (k : Int) ≤ 200
structure Plain8 (w : World) (P : Option Addr) (n k : Nat) (N : Int) (l : List Ent) : Prop where
  ins : In8 w P n l
  great : greatN 0 l = false
  few : (k : Int) ≤ 200
  frames : N ≤ 64
theorem In8.below {w w' : World} {P : Option Addr} {n : Nat} {l : List Ent} (h : In8 w P n l) (hb : Below w.heap.size w w') : In8 w' P n l := ⟨h.ents.below hb, h.len, h.few, h.small⟩
theorem Huge8.below {w w' : World} {P : Option Addr} {n k : Nat} {N : Int} (h : Huge8 w P n k N) (hb : Below w.heap.size w w') : Huge8 w' P n k N := by
  rcases h with h | h | h | ⟨l, h1, h2⟩
  · exact .inl h
  · exact .inr (.inl h)
  · exact .inr (.inr (.inl h))
  · exact .inr (.inr (.inr ⟨l, h1.below hb, h2⟩))
theorem Plain8.below {w w' : World} {P : Option Addr} {n k : Nat} {N : Int} {l : List Ent} (h : Plain8 w P n k N l) (hb : Below w.heap.size w w') : Plain8 w' P n k N l := ⟨h.ins.below hb, h.great, h.few, h.frames⟩
theorem huge_or8 {w : World} {P : Option Addr} {n cap : Nat} (k : Nat) (N : Int) (h : ArgF8 w P n cap) : Huge8 w P n k N ∨ ∃ l, Plain8 w P n k N l := by
  by_cases h1 : (200 : Int) < (k : Int) ∨ 64 < N ∨ (64 : Int) < (n : Int)
  · left
    rcases h1 with h1 | h1 | h1
    · exact .inl h1
    · exact .inr (.inl h1)
    · exact .inr (.inr (.inl h1))
  · obtain ⟨l, hl, hE⟩ := h.2 (by omega)
    cases hg : greatN 0 l with
    | true => exact .inl (.inr (.inr (.inr ⟨l, hE, hl.symm, hg, by omega, by omega, by omega⟩)))
    | false => exact .inr ⟨l, ⟨hE, hl.symm, by omega, fun x hx => entW_small (greatN_small hg x hx)⟩, hg, by omega, by omega⟩
theorem vast_huge {w : World} {P Q : Option Addr} {n k : Nat} {N : Int} (cap cap2 : Nat) (h : Huge8 w P n k N) :
    Calls Tryd.prog 44 #[.agg #[.slice P n cap, .int .i64 N], .slice Q k cap2] w fun e w' => e = .returned (.bool true) ∧ Below w.heap.size w w' := by
  rcases h with h | h | h | ⟨l, h1, h2, h3, h4, h5, h6⟩
  · exact vast8_yes P n cap k cap2 Q N w (.inl h)
  · exact vast8_yes P n cap k cap2 Q N w (.inr (.inl h))
  · exact vast8_yes P n cap k cap2 Q N w (.inr (.inr h))
  · have h9 := vast8_some P n cap k cap2 Q N l w h1 h2 h6 h5 h4
    rw [h3] at h9
    exact h9
theorem vast_plain {w : World} {P Q : Option Addr} {n k : Nat} {N : Int} {l : List Ent} (cap cap2 : Nat) (h : Plain8 w P n k N l) :
    Calls Tryd.prog 44 #[.agg #[.slice P n cap, .int .i64 N], .slice Q k cap2] w fun e w' => e = .returned (.bool false) ∧ Below w.heap.size w w' := by
  have h9 := vast8_some P n cap k cap2 Q N l w h.ins.ents h.ins.len h.few h.frames h.ins.few
  rw [h.great] at h9
  exact h9
/-- The law's box, behind anything that is made. -/
structure Box8 (w : World) (b : Nat) (P : Option Addr) (n cap : Nat) (N : Int) : Prop where
  c0 : w.cell? ⟨b, 0, none⟩ = some (.slice P n cap)
  c1 : w.cell? ⟨b, 1, none⟩ = some (.int .i64 N)
  lt : b < w.heap.size
theorem Box8.below {w w' : World} {b B : Nat} {P : Option Addr} {n cap : Nat} {N : Int} (h : Box8 w b P n cap N) (hb : Below B w w') (hB : b < B) : Box8 w' b P n cap N := ⟨(hb.cell (p := ⟨b, 0, none⟩) hB).trans h.c0, (hb.cell (p := ⟨b, 1, none⟩) hB).trans h.c1, by have := hb.size; have := h.lt; omega⟩
theorem box8_new (w : World) (P : Option Addr) (n cap : Nat) (N : Int) : Box8 (w.alloc (.cells #[.slice P n cap, .int .i64 N] 85)) w.heap.size P n cap N :=
  ⟨one_block (heap_alloc_new w _) 0, one_block (heap_alloc_new w _) 1, by simp⟩

end Go.Proofs.YtmkgdgfbdmjeeaaDoor
