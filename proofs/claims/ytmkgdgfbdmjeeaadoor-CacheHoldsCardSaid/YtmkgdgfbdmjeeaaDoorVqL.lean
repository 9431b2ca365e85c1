/- The cache's laws: does at anything; ops in memory; what New makes holds bytes. -/
import Derived.Test.YtmkgdgfbdmjeeaaDoorVqK
namespace Go.Proofs.YtmkgdgfbdmjeeaaDoor
open Go.RowKit Go.Sort
set_option linter.unusedSimpArgs false
set_option linter.unusedVariables false

theorem addM_bytes {F : List Nd} {e : Ent} (hF : BytesF F) (hd : ∀ i, e.dat i < 256) : BytesF (addM F e).2 := by
  unfold addM
  split
  · exact hF
  · split
    · exact hF
    · split
      · exact hF
      · split
        · exact hF
        · intro i y hy
          simp only at hy
          by_cases hi : i < F.length
          · rw [List.getElem?_append_left hi] at hy
            exact hF i y hy
          · rw [List.getElem?_append_right (by omega)] at hy
            have := List.mem_of_getElem? hy
            rw [List.mem_singleton] at this
            subst this
            exact hd
theorem newM_bytes : ∀ {l : List Ent} {F : List Nd} {i : Nat}, BytesF F → (∀ x ∈ l, ∀ i, x.dat i < 256) → BytesF (newM F i l).2.2
  | [], F, i, hF, _ => hF
  | e :: l, F, i, hF, hd => by
    unfold newM
    split
    · exact hF
    · exact newM_bytes (addM_bytes hF (hd e (List.mem_cons_self ..))) (fun x hx => hd x (List.mem_cons_of_mem _ hx))
theorem root_bytes : BytesF [rootNd] := fun i y hy => by
  have := List.mem_of_getElem? hy
  rw [List.mem_singleton] at this
  subst this
  exact fun j => by show 0 < 256; omega

def Op8.val (o : Op8) : Value := .agg #[.int .i64 o.kind, .int .i64 o.ino, .int .i64 o.page, .int .i64 o.n]
structure Op8.Ok (o : Op8) : Prop where
  kind : (Lit.int .i64 o.kind).wf = true
  ino : (Lit.int .i64 o.ino).wf = true
  page : (Lit.int .i64 o.page).wf = true
  n : (Lit.int .i64 o.n).wf = true
theorem does8_any (B o a c fs m n k cl ch : Nat) (op : Op8) (w : World) (S : Nat → Prop) (F : List Nd) (s : St8) (ext : Nat → Nat) (Hl Hh : Option Addr) (h : Run8 w B o a c fs m S F s Hl cl Hh ch) (hf : s.Fine F ext n k) (hk : k ≤ 100000) (hby : BytesF F) (hext : ∀ g, ext g ≤ 100000) (hop : op.Ok) :
    Calls Tryd.prog 48 #[.pointer (some ⟨o, 0, none⟩), op.val] w (Does8Post w B o a c fs m S Hl Hh F op s) := by
  obtain ⟨K, ino, page, N⟩ := op
  have hc : K = 0 ∨ K = 1 ∨ K = 2 ∨ K = 3 ∨ K = 4 ∨ (K < 0 ∨ 4 < K) := by omega
  rcases hc with rfl | rfl | rfl | rfl | rfl | hK
  · exact does8_get B o a c fs m n k cl ch ino page N w S F s ext Hl Hh h hf hk hby hop.ino
  · exact does8_take B o a c fs m n k cl ch ino page N w S F s ext Hl Hh h hf hk
  · cases hp : pick s.l N with
    | none => exact does8_holdNo B o a c fs m n k cl ch ino page N w S F s ext Hl Hh h hf hp
    | some f => exact does8_hold B o a c fs m n k cl ch f ino page N w S F s ext Hl Hh h hf hk hp hext
  · cases hp : pick s.h N with
    | none => exact does8_giveNo B o a c fs m n k cl ch ino page N w S F s ext Hl Hh h hf hp
    | some f => exact does8_give B o a c fs m n k cl ch f ino page N w S F s ext Hl Hh h hf hk hp
  · exact does8_drop B o a c fs m n k cl ch ino page N w S F s ext Hl Hh h hf
  · exact does8_other B o a c fs m n k cl ch K ino page N w S F s ext Hl Hh h hf hK

structure OpAt8 (w : World) (b o : Nat) (x : Op8) : Prop where
  c0 : w.cell? ⟨b, o, none⟩ = some (.int .i64 x.kind)
  c1 : w.cell? ⟨b, o + 1, none⟩ = some (.int .i64 x.ino)
  c2 : w.cell? ⟨b, o + 2, none⟩ = some (.int .i64 x.page)
  c3 : w.cell? ⟨b, o + 3, none⟩ = some (.int .i64 x.n)
theorem OpAt8.below {w w' : World} {B b o : Nat} {x : Op8} (h : OpAt8 w b o x) (hb : Below B w w') (hB : b < B) : OpAt8 w' b o x :=
  ⟨(hb.cell (p := ⟨b, o, none⟩) hB).trans h.c0, (hb.cell (p := ⟨b, o + 1, none⟩) hB).trans h.c1, (hb.cell (p := ⟨b, o + 2, none⟩) hB).trans h.c2, (hb.cell (p := ⟨b, o + 3, none⟩) hB).trans h.c3⟩
/-- A slice that reads as a list of ops, below block B. -/
structure OSl8 (w : World) (B : Nat) (A : Option Addr) (n cap : Nat) (l : List Op8) : Prop where
  len : l.length = n
  cap : n ≤ cap
  few : n ≤ 1000000
  at_ : ∀ k x, l[k]? = some x → ∃ b off, A = some ⟨b, off, none⟩ ∧ b < B ∧ OpAt8 w b (off + k * 4) x
  ok : ∀ x ∈ l, x.Ok
theorem OSl8.below {w w' : World} {B B' : Nat} {A : Option Addr} {n cap : Nat} {l : List Op8} (h : OSl8 w B A n cap l) (hb : Below B' w w') (hB : B ≤ B') : OSl8 w' B A n cap l :=
  ⟨h.len, h.cap, h.few, fun k r hr => by
    obtain ⟨b, off, e, hlt, hra⟩ := h.at_ k r hr
    exact ⟨b, off, e, hlt, hra.below hb (by omega)⟩, h.ok⟩
theorem OSl8.more {w : World} {B B' : Nat} {A : Option Addr} {n cap : Nat} {l : List Op8} (h : OSl8 w B A n cap l) (hB : B ≤ B') : OSl8 w B' A n cap l :=
  ⟨h.len, h.cap, h.few, fun k r hr => by
    obtain ⟨b, off, e, hlt, hra⟩ := h.at_ k r hr
    exact ⟨b, off, e, by omega, hra⟩, h.ok⟩
theorem OSl8.nil (w : World) (B : Nat) : OSl8 w B none 0 0 [] := ⟨rfl, Nat.le_refl _, by omega, (fun k x h => by simp at h), (fun x h => by cases h)⟩

/-- The state ahead of all that is done. -/
theorem start8 (F : List Nd) (n : Nat) : (St8.mk (fresh n) [] 0 [] []).Fine F (fun _ => 0) n 0 :=
  ⟨fun f _ => rfl, (by unfold Sole; exact List.Pairwise.nil), (fun s hs => by cases hs), rfl, ⟨Nat.le_refl _, Nat.le_refl _, Nat.le_refl _, Int.le_refl _, Int.le_refl _⟩, (fun f hf => by cases hf), (fun f hf => by cases hf), (fun f hf => by cases hf), (fun f hf => by cases hf)⟩
theorem St8.Fine.more {s : St8} {F : List Nd} {ext : Nat → Nat} {n k k' : Nat} (h : s.Fine F ext n k) (hk : k ≤ k') : s.Fine F ext n k' :=
  ⟨h.even, h.sole, h.filled, h.size, by have := h.few; omega, h.lowL, h.lowH, h.slow, h.keys⟩

end Go.Proofs.YtmkgdgfbdmjeeaaDoor
