/- The document's cache, as it lies; Loose, Find, without. -/
import Derived.Test.YtkkmcnngpahfaaaGreatDoorDpC
import Derived.Test.YtkkmcnngpahfaaaGreatDoorDqA
namespace Go.Proofs.YtkkmcnngpahfaaaGreatDoor
open Go.RowKit Go.Sort
set_option linter.unusedSimpArgs false
set_option linter.unusedVariables false

def slD (s : Slot) : List Value := [.int .i64 s.ino, .int .i64 s.page, .int .i64 (s.frame : Int)]
theorem sd_elem : Elem 116 118 3 24 (.agg #[.int .i64 0, .int .i64 0, .int .i64 0]) slD where
  und := Tryz.underlying116
  info := by kernel_rfl
  size := rfl
  pos := by decide
  small := by decide
  len _ := rfl
  one x v hv := by
    simp only [slD, List.mem_cons, List.not_mem_nil, or_false] at hv
    rcases hv with rfl | rfl | rfl <;> rfl
/-- Where the document's cache lies. -/
structure DcW where
  d : Nat
  z : DpW
  A : Option Addr
  cap : Nat
def dcB (y : DcW) (n b : Nat) : Prop := b = y.d ∨ dpB y.z n b ∨ y.A = some ⟨b, 0, none⟩
structure DcIs (w : World) (B g : Nat) (y : DcW) (p : Pool) (D : List Slot) : Prop where
  self : w.heap[y.d]? = some (.cells #[.pointer (some ⟨y.z.q, 0, none⟩), .pointer (some ⟨g, 0, none⟩), .slice y.A D.length y.cap] 172 (0, 0))
  pool : DpIs w B y.z p
  row : OwnG 118 3 slD w B y.A y.cap D
  low : B ≤ y.d
variable {w w' : World} {B g : Nat} {y y' : DcW} {p p' : Pool} {D D' : List Slot}
theorem DcIs.apart (h : DcIs w B g y p D) : ¬ dpB y.z p.n y.d ∧ (∀ b, y.A = some ⟨b, 0, none⟩ → b ≠ y.d ∧ ¬ dpB y.z p.n b) := by
  have h1 : ∀ b, y.A = some ⟨b, 0, none⟩ → ∃ cur, w.heap[b]? = some (.cells cur 118 (0, 0)) := fun b e => row_type h.row e
  have h2 : ∀ {b : Nat} {T : TypeId} {cs : Array Value} {f : Nat × Nat}, w.heap[b]? = some (.cells cs T f) → T ≠ 170 → T ≠ 3 → T ≠ 99 → T ≠ 5 → ¬ dpB y.z p.n b := fun {b T cs f} hb t1 t2 t3 t4 e => by
    rcases e with e | e | e | ⟨i, hi, e⟩
    · exact two_types hb h.pool.self t1 e
    · exact two_types hb h.pool.counts t2 e
    · exact two_types hb h.pool.rows t3 e
    · obtain ⟨cur, hg⟩ := (h.pool.row i hi).typeU e
      exact two_types hb hg t4 rfl
  exact ⟨h2 h.self (by decide) (by decide) (by decide) (by decide), fun b e => by
    obtain ⟨cur, hb⟩ := h1 b e
    exact ⟨two_types hb h.self (by decide), h2 hb (by decide) (by decide) (by decide) (by decide)⟩⟩
theorem DcIs.lt (h : DcIs w B g y p D) : ∀ b, dcB y p.n b → B ≤ b ∧ b < w.heap.size := fun b e => by
  rcases e with rfl | e | e
  · exact ⟨h.low, (Array.getElem?_eq_some_iff.1 h.self).1⟩
  · exact h.pool.lt b e
  · exact h.row.lt b e
theorem DcIs.same (h : DcIs w B g y p D) (hb : ∀ b, dcB y p.n b → w'.heap[b]? = w.heap[b]?) : DcIs w' B g y p D :=
  ⟨(hb _ (.inl rfl)).trans h.self, h.pool.same fun b e => hb b (.inr (.inl e)), h.row.same fun b e => hb b (.inr (.inr e)), h.low⟩
theorem DcIs.kept (h : DcIs w B g y p D) (hb : Below w.heap.size w w') : DcIs w' B g y p D := h.same fun b e => hb.block b (h.lt b e).2
structure DcNext (w : World) (B g : Nat) (y : DcW) (N : Nat) (w' : World) (y' : DcW) (p' : Pool) (D' : List Slot) : Prop where
  is : DcIs w' B g y' p' D'
  d : y'.d = y.d ∧ y'.z.q = y.z.q
  n : p'.n = N
  mod : Mod (dcB y N) w w'
  out : Out (dcB y N) (dcB y' N) w
theorem DcNext.refl (h : DcIs w B g y p D) : DcNext w B g y p.n w y p D := ⟨h, ⟨rfl, rfl⟩, rfl, Mod.refl _ _, Out.refl _ _⟩
theorem DcNext.kept (h : DcIs w B g y p D) (hb : Below w.heap.size w w') : DcNext w B g y p.n w' y p D := ⟨h.kept hb, ⟨rfl, rfl⟩, rfl, Mod.of hb, Out.refl _ _⟩
theorem DcNext.trans {n : Nat} {w1 : World} {y1 : DcW} {p1 : Pool} {D1 : List Slot} (h : DcNext w B g y n w1 y1 p1 D1) (k : DcNext w1 B g y1 n w' y' p' D') : DcNext w B g y n w' y' p' D' :=
  ⟨k.is, ⟨k.d.1.trans h.d.1, k.d.2.trans h.d.2⟩, k.n, h.mod.trans h.out k.mod, h.out.trans k.out h.mod.size⟩
theorem DcNext.below {n : Nat} (h : DcNext w B g y n w' y' p' D') (hi : DcIs w B g y p D) (hn : p.n = n) (hB : B ≤ w.heap.size) : Below B w w' := h.mod.below (fun b e => (hi.lt b (by rw [hn]; exact e)).1) hB
/-- The pool is turned. -/
theorem DcIs.pooled {z' : DpW} (h : DcIs w B g y p D) (hn : DpNext w B y.z p.n w' z' p') : DcNext w B g y p.n w' { y with z := z' } p' D := by
  obtain ⟨n1, n2⟩ := h.apart
  refine ⟨⟨?_, hn.is, h.row.same fun b e => hn.mod.block b (h.row.lt b e).2 (n2 b e).2, h.low⟩, ⟨rfl, hn.q⟩, hn.n, hn.mod.sub fun b e => .inr (.inl e), fun b e => ?_⟩
  · have h1 := (hn.mod.block _ (h.lt _ (.inl rfl)).2 n1).trans h.self
    rw [← hn.q] at h1
    exact h1
  · rcases e with e | e | e
    · exact .inl (.inl e)
    · exact (hn.out b e).imp (fun e => .inr (.inl e)) id
    · exact .inl (.inr (.inr e))
/-- The slots are others. -/
theorem DcIs.rowed {w1 : World} {A : Option Addr} {c : Nat} (h : DcIs w B g y p D) (hm : Mod (fun b => y.A = some ⟨b, 0, none⟩) w w1) (ho : OwnG 118 3 slD w1 B A c D') (hA : A = y.A ∨ ∀ b, A = some ⟨b, 0, none⟩ → w.heap.size ≤ b) :
    DcNext w B g y p.n (w1.setCell ⟨y.d, 2, none⟩ (.slice A D'.length c)) { y with A := A, cap := c } p D' := by
  obtain ⟨n1, n2⟩ := h.apart
  have hs := (hm.block _ (h.lt _ (.inl rfl)).2 fun e => (n2 _ e).1 rfl).trans h.self
  have hd := (h.lt _ (.inl rfl)).2
  have hp : DpIs w1 B y.z p := h.pool.same fun b e => hm.block b (h.pool.lt b e).2 fun e2 => (n2 b e2).2 e
  have hAd : ∀ b, A = some ⟨b, 0, none⟩ → b ≠ y.d := fun b e => hA.elim (fun e2 => (n2 b (by rw [← e2, e])).1) fun h9 => by have := h9 b e; omega
  have hms := mod_set (S := fun b => b = y.d) (w := w1) (b := y.d) rfl 2 (.slice A D'.length c)
  refine ⟨⟨?_, hp.same fun b e => hms.block b (hp.lt b e).2 (fun e2 => by subst e2; exact n1 e), ho.same fun b e => hms.block b (ho.lt b e).2 (hAd b e), h.low⟩, ⟨rfl, rfl⟩, rfl, ?_, fun b e => ?_⟩
  · have h9 := Joins.block_setCell (i := 2) hs (.slice A D'.length c)
    exact h9
  · exact ((hm.sub (T := dcB y p.n) fun b e => .inr (.inr e)).trans (Out.refl _ _) (hms.sub fun b e => .inl e))
  · rcases e with e | e | e
    · exact .inl (.inl e)
    · exact .inl (.inr (.inl e))
    · rcases hA with e2 | e2
      · exact .inl (.inr (.inr (by rw [← e2]; exact e)))
      · exact .inr (e2 b e)
theorem DcIs.c (h : DcIs w B g y p D) : w.cell? ⟨y.d, 0, none⟩ = some (.pointer (some ⟨y.z.q, 0, none⟩)) ∧ w.cell? ⟨y.d, 1, none⟩ = some (.pointer (some ⟨g, 0, none⟩)) ∧ w.cell? ⟨y.d, 2, none⟩ = some (.slice y.A D.length y.cap) := ⟨one_block h.self 0, one_block h.self 1, one_block h.self 2⟩
/-- A slot's cells. -/
theorem OwnG.slotAt {A : Option Addr} {base cap : Nat} (h : OwnG 118 3 slD w base A cap D) {i : Nat} {s : Slot} (hs : D[i]? = some s) :
    ∃ b, A = some ⟨b, 0, none⟩ ∧ b < w.heap.size ∧ i < D.length ∧ D.length ≤ cap ∧ w.cell? ⟨b, i * 3, none⟩ = some (.int .i64 s.ino) ∧ w.cell? ⟨b, i * 3 + 1, none⟩ = some (.int .i64 s.page) ∧ w.cell? ⟨b, i * 3 + 2, none⟩ = some (.int .i64 (s.frame : Int)) := by
  have hi := (List.getElem?_eq_some_iff.1 hs).1
  rcases h.form with ⟨_, e, _⟩ | ⟨b, rfl, _, e2, e3⟩
  · rw [e] at hi; simp at hi
  · exact ⟨b, rfl, e2, hi, e3, h.cell sd_elem hs 0 (by decide), h.cell sd_elem hs 1 (by decide), h.cell sd_elem hs 2 (by decide)⟩

end Go.Proofs.YtkkmcnngpahfaaaGreatDoor
