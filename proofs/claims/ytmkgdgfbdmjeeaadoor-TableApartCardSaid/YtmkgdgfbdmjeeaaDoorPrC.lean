/- What comes in: a list of what is done with a table. -/
import Derived.Test.YtmkgdgfbdmjeeaaDoorPrA
namespace Go.Proofs.YtmkgdgfbdmjeeaaDoor
open Go.ChangeShapes Go.WideShapes Go.ChangeAt Go.RowKit Go.Deep Go.Joins
set_option linter.unusedSimpArgs false
set_option linter.unusedVariables false

structure OpAt (w : World) (b o : Nat) (x : Op) : Prop where
  c0 : w.cell? ⟨b, o, none⟩ = some (.int .i64 x.kind)
  c1 : w.cell? ⟨b, o + 1, none⟩ = some (.int .u64 x.addr)
  c2 : w.cell? ⟨b, o + 2, none⟩ = some (.int .i64 x.frame)
  c3 : w.cell? ⟨b, o + 3, none⟩ = some (.int .u8 x.prot)
  c4 : w.cell? ⟨b, o + 4, none⟩ = some (.bool x.copy)
  c5 : w.cell? ⟨b, o + 5, none⟩ = some (.int .i64 x.n)
theorem OpAt.below {w w' : World} {B b o : Nat} {x : Op} (h : OpAt w b o x) (hb : Below B w w') (hB : b < B) : OpAt w' b o x :=
  ⟨(hb.cell (p := ⟨b, o, none⟩) hB).trans h.c0, (hb.cell (p := ⟨b, o + 1, none⟩) hB).trans h.c1, (hb.cell (p := ⟨b, o + 2, none⟩) hB).trans h.c2, (hb.cell (p := ⟨b, o + 3, none⟩) hB).trans h.c3, (hb.cell (p := ⟨b, o + 4, none⟩) hB).trans h.c4, (hb.cell (p := ⟨b, o + 5, none⟩) hB).trans h.c5⟩
/-- A slice that reads as a list of ops, below block B. -/
structure OSl (w : World) (B : Nat) (A : Option Addr) (n cap : Nat) (l : List Op) : Prop where
  len : l.length = n
  cap : n ≤ cap
  few : n ≤ 1000000
  at_ : ∀ k x, l[k]? = some x → ∃ b off, A = some ⟨b, off, none⟩ ∧ b < B ∧ OpAt w b (off + k * 6) x
  ok : ∀ x ∈ l, x.Ok
theorem OSl.below {w w' : World} {B B' : Nat} {A : Option Addr} {n cap : Nat} {l : List Op} (h : OSl w B A n cap l) (hb : Below B' w w') (hB : B ≤ B') : OSl w' B A n cap l :=
  ⟨h.len, h.cap, h.few, fun k r hr => by
    obtain ⟨b, off, e, hlt, hra⟩ := h.at_ k r hr
    exact ⟨b, off, e, hlt, hra.below hb (by omega)⟩, h.ok⟩
theorem OSl.more {w : World} {B B' : Nat} {A : Option Addr} {n cap : Nat} {l : List Op} (h : OSl w B A n cap l) (hB : B ≤ B') : OSl w B' A n cap l :=
  ⟨h.len, h.cap, h.few, fun k r hr => by
    obtain ⟨b, off, e, hlt, hra⟩ := h.at_ k r hr
    exact ⟨b, off, e, by omega, hra⟩, h.ok⟩
theorem list_of {α : Type} {P : Nat → α → Prop} : ∀ n : Nat, (∀ i, i < n → ∃ r, P i r) → ∃ l : List α, l.length = n ∧ ∀ k r, l[k]? = some r → P k r
  | 0, _ => ⟨[], rfl, fun k r h => by simp at h⟩
  | n + 1, h => by
    obtain ⟨l, hl, hp⟩ := list_of n (fun i hi => h i (by omega))
    obtain ⟨r, hr⟩ := h n (by omega)
    refine ⟨l ++ [r], by simp [hl], fun k x hx => ?_⟩
    by_cases hk : k < l.length
    · rw [List.getElem?_append_left hk] at hx
      exact hp k x hx
    · rw [List.getElem?_append_right (by omega)] at hx
      have h0 : k - l.length = 0 := by
        have := (List.getElem?_eq_some_iff.1 hx).1
        simp at this
        omega
      rw [h0] at hx
      simp at hx
      subst hx
      have : k = n := by omega
      rw [this]
      exact hr
def ArgO (w : World) (a : Option Addr) (len cap : Nat) : Prop := len ≤ 9223372036854775807 ∧ (len ≤ 300 → ∃ l : List Op, OSl w w.heap.size a len cap l)

section
variable {H : Type} {enc : TypeId × Value → H} {w : World} {base : Nat} {spare : Nat → Bool} {held : Bool}
theorem field_bool {n fuel : Nat} {j : Nat} {t : TypeId} {fs : Array Field} (hf : (fs[j]?).map (·.type) = some t) (ht : Tryd.prog.underlying t = some .bool) {a : Addr} {ys : List (DataW H × List MemPlace)}
    (h : ∀ (j : Nat) (f : Field), fs[j]? = some f → ∃ (v : Value) (y : DataW H × List MemPlace), w.cell? (a.add (n + j)) = some v ∧ ys[j]? = some y ∧ DataW.trod enc Tryd.prog w base spare held fuel f.type [v] = some y) :
    ∃ x : Bool, w.cell? (a.add (n + j)) = some (.bool x) := by
  obtain ⟨f, hf1, hf2⟩ := Option.map_eq_some_iff.1 hf
  obtain ⟨v, y, hc, _, htr⟩ := h j f hf1
  rw [hf2] at htr
  obtain ⟨x, hx, _⟩ := DataW.trod_bool ht htr
  simp at hx
  subst hx
  exact ⟨x, hc⟩
set_option maxRecDepth 100000 in
theorem open_ops {a : Option Addr} {len cap : Nat} {d : DataW H} {p : List MemPlace} (h : DataW.Trod enc Tryd.prog w base spare held 50 (.slice a len cap) d p) : ArgO w a len cap := by
  obtain ⟨fuel, hf⟩ := h
  rcases open_slice_fields Tryd.underlying50 op_und op_one (by rw [op_cells, op_fs]) hf with ⟨hcs, _⟩ | ⟨x, l, c, m, D, Pl, hcs, _, hl, hm, hmm, _, hi⟩
  · simp [Value.cells] at hcs
    obtain ⟨rfl, rfl, rfl⟩ := hcs
    exact ⟨by omega, fun _ => ⟨[], rfl, Nat.le_refl _, by omega, fun k r h => by simp at h, fun r h => by simp at h⟩⟩
  · simp [Value.cells] at hcs
    obtain ⟨rfl, rfl, rfl⟩ := hcs
    have hlm : len ≤ m := by rw [hmm]; split <;> omega
    refine ⟨by unfold maxLen at hm; omega, fun h300 => ?_⟩
    rcases Nat.eq_zero_or_pos len with rfl | hpos
    · exact ⟨[], rfl, hl, by omega, fun k r h => by simp at h, fun r h => by simp at h⟩
    have hsp : x.spot = none := by
      obtain ⟨ys, n, _, _, _, hfl⟩ := hi 0 (by omega)
      rw [op_fs] at hfl
      obtain ⟨x0, c0, w0⟩ := field_int op_f0 Tryd.underlying3 hfl
      have h1 := World.cell?_spot c0
      simpa [Addr.add] using h1
    have key : ∀ i, i < len → ∃ r : Op, r.Ok ∧ ∃ b off, x = ⟨b, off, none⟩ ∧ b < w.heap.size ∧ OpAt w b (off + i * 6) r := by
      intro i hil
      obtain ⟨ys, n, _, _, _, hfl⟩ := hi i (by omega)
      rw [op_fs] at hfl
      obtain ⟨x0, c0, w0⟩ := field_int op_f0 Tryd.underlying3 hfl
      obtain ⟨x1, c1, w1⟩ := field_int op_f1 Tryd.underlying22 hfl
      obtain ⟨x2, c2, w2⟩ := field_int op_f2 Tryd.underlying3 hfl
      obtain ⟨x3, c3, w3⟩ := field_int op_f3 Tryd.underlying5 hfl
      obtain ⟨x4, c4⟩ := field_bool op_f4 Tryd.underlying4 hfl
      obtain ⟨x5, c5, w5⟩ := field_int op_f5 Tryd.underlying3 hfl
      obtain ⟨b, off, sp⟩ := x
      obtain rfl : sp = none := hsp
      have e : ∀ j, (⟨b, off, none⟩ : Addr).add (i * 6 + j) = ⟨b, off + i * 6 + j, none⟩ := fun j => by
        unfold Addr.add
        split
        · have : i * 6 = 0 ∧ j = 0 := by omega
          simp [this.1, this.2]
        · show (⟨b, off + (i * 6 + j), none⟩ : Addr) = _
          rw [Nat.add_assoc]
      rw [e] at c0 c1 c2 c3 c4 c5
      exact ⟨⟨x0, x1, x2, x3, x4, x5⟩, op_ok w0 w1 w2 w3 w5, b, off, rfl, World.block_lt_of_cell? w _ c0, ⟨c0, c1, c2, c3, c4, c5⟩⟩
    obtain ⟨lst, hlen, hall⟩ := list_of (P := fun i r => Op.Ok r ∧ ∃ b off, x = ⟨b, off, none⟩ ∧ b < w.heap.size ∧ OpAt w b (off + i * 6) r) len key
    refine ⟨lst, hlen, hl, by omega, fun k r hr => ?_, fun r hr => ?_⟩
    · obtain ⟨_, b, off, hx, hb, hra⟩ := hall k r hr
      exact ⟨b, off, by rw [hx], hb, hra⟩
    · obtain ⟨k, hk, e⟩ := List.mem_iff_getElem.1 hr
      exact (hall k r (by rw [List.getElem?_eq_getElem hk, e])).1
end

end Go.Proofs.YtmkgdgfbdmjeeaaDoor
