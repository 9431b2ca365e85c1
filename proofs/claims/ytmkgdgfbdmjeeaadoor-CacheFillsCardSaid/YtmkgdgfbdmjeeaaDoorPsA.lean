/- What comes in at the cache's laws: files and what is done, opened. The opener of structs is the guide's own (howto/extra-structs.md), as it asks it to be copied. -/
import Derived.Test.YtmkgdgfbdmjeeaaDoorPrA
import Derived.Test.YtmkgdgfbdmjeeaaDoorVqL
import Derived.Test.YtmkgdgfbdmjeeaaDoorVqA
import Derived.ChangeSlices
namespace Go.Proofs.YtmkgdgfbdmjeeaaDoor
open Go.ChangeShapes Go.WideShapes Go.ChangeAt Go.RowKit Go.Deep Go.Joins
set_option linter.unusedSimpArgs false
set_option linter.unusedVariables false

theorem add_flat {b off i j n : Nat} : (⟨b, off, none⟩ : Addr).add (i * n + j) = ⟨b, off + i * n + j, none⟩ := by
  unfold Addr.add
  split
  · next h =>
    have h1 : i * n = 0 := by omega
    have h2 : j = 0 := by omega
    simp [h1, h2]
  · show (⟨b, off + (i * n + j), none⟩ : Addr) = _
    rw [Nat.add_assoc]

theorem op8_cells : Tryd.prog.cellsOf 97 = 4 := by kernel_rfl
theorem op8_one : oneCellFields Tryd.prog (Tryd.prog.fieldsOf 97) = true := by kernel_rfl
theorem op8_und : Tryd.prog.underlying 97 = some (.struct (Tryd.prog.fieldsOf 97)) := by kernel_rfl
theorem op8_fs : (Tryd.prog.fieldsOf 97).size = 4 := by kernel_rfl
theorem op8_f0 : ((Tryd.prog.fieldsOf 97)[0]?).map (·.type) = some 3 := by kernel_rfl
theorem op8_f1 : ((Tryd.prog.fieldsOf 97)[1]?).map (·.type) = some 3 := by kernel_rfl
theorem op8_f2 : ((Tryd.prog.fieldsOf 97)[2]?).map (·.type) = some 3 := by kernel_rfl
theorem op8_f3 : ((Tryd.prog.fieldsOf 97)[3]?).map (·.type) = some 3 := by kernel_rfl

def ArgO8 (w : World) (a : Option Addr) (len cap : Nat) : Prop := len ≤ 9223372036854775807 ∧ (len ≤ 300 → ∃ l : List Op8, OSl8 w w.heap.size a len cap l)
def ArgF8 (w : World) (P : Option Addr) (n cap : Nat) : Prop := n ≤ 9223372036854775807 ∧ (n ≤ 300 → ∃ l : List Ent, l.length = n ∧ EntsIn w P l)

section
variable {H : Type} {enc : TypeId × Value → H} {w : World} {base : Nat} {spare : Nat → Bool} {held : Bool}
set_option maxRecDepth 100000 in
theorem open_op8s {a : Option Addr} {len cap : Nat} {d : DataW H} {p : List MemPlace} (h : DataW.Trod enc Tryd.prog w base spare held 86 (.slice a len cap) d p) : ArgO8 w a len cap := by
  obtain ⟨fuel, hf⟩ := h
  rcases open_slice_fields Tryd.underlying86 op8_und op8_one (by rw [op8_cells, op8_fs]) hf with ⟨hcs, _⟩ | ⟨x, l, c, m, D, Pl, hcs, _, hl, hm, hmm, _, hi⟩
  · simp [Value.cells] at hcs
    obtain ⟨rfl, rfl, rfl⟩ := hcs
    exact ⟨by omega, fun _ => ⟨[], OSl8.nil _ _⟩⟩
  · simp [Value.cells] at hcs
    obtain ⟨rfl, rfl, rfl⟩ := hcs
    have hlm : len ≤ m := by rw [hmm]; split <;> omega
    refine ⟨by unfold maxLen at hm; omega, fun h300 => ?_⟩
    rcases Nat.eq_zero_or_pos len with rfl | hpos
    · exact ⟨[], rfl, hl, by omega, fun k r h => by simp at h, fun r h => by simp at h⟩
    have hsp : x.spot = none := by
      obtain ⟨ys, n, _, _, _, hfl⟩ := hi 0 (by omega)
      rw [op8_fs] at hfl
      obtain ⟨x0, c0, w0⟩ := field_int op8_f0 Tryd.underlying3 hfl
      have h1 := World.cell?_spot c0
      simpa [Addr.add] using h1
    have key : ∀ i, i < len → ∃ r : Op8, r.Ok ∧ ∃ b off, x = ⟨b, off, none⟩ ∧ b < w.heap.size ∧ OpAt8 w b (off + i * 4) r := by
      intro i hil
      obtain ⟨ys, n, _, _, _, hfl⟩ := hi i (by omega)
      rw [op8_fs] at hfl
      obtain ⟨x0, c0, w0⟩ := field_int op8_f0 Tryd.underlying3 hfl
      obtain ⟨x1, c1, w1⟩ := field_int op8_f1 Tryd.underlying3 hfl
      obtain ⟨x2, c2, w2⟩ := field_int op8_f2 Tryd.underlying3 hfl
      obtain ⟨x3, c3, w3⟩ := field_int op8_f3 Tryd.underlying3 hfl
      obtain ⟨b, off, sp⟩ := x
      obtain rfl : sp = none := hsp
      rw [add_flat] at c0 c1 c2 c3
      exact ⟨⟨x0, x1, x2, x3⟩, ⟨w0, w1, w2, w3⟩, b, off, rfl, World.block_lt_of_cell? w _ c0, ⟨c0, c1, c2, c3⟩⟩
    obtain ⟨lst, hlen, hall⟩ := list_of (P := fun i r => Op8.Ok r ∧ ∃ b off, x = ⟨b, off, none⟩ ∧ b < w.heap.size ∧ OpAt8 w b (off + i * 4) r) len key
    refine ⟨lst, hlen, hl, by omega, fun k r hr => ?_, fun r hr => ?_⟩
    · obtain ⟨_, b, off, hx, hb, hra⟩ := hall k r hr
      exact ⟨b, off, by rw [hx], hb, hra⟩
    · obtain ⟨k, hk, e⟩ := List.mem_iff_getElem.1 hr
      exact (hall k r (by rw [List.getElem?_eq_getElem hk, e])).1

theorem ent_cells : Tryd.prog.cellsOf 156 = 7 := by kernel_rfl
theorem ent_one : oneCellFields Tryd.prog (Tryd.prog.fieldsOf 156) = true := by kernel_rfl
theorem ent_und : Tryd.prog.underlying 156 = some (.struct (Tryd.prog.fieldsOf 156)) := by kernel_rfl
theorem ent_fs : (Tryd.prog.fieldsOf 156).size = 7 := by kernel_rfl
theorem ent_f0 : ((Tryd.prog.fieldsOf 156)[0]?).map (·.type) = some 9 := by kernel_rfl
theorem ent_f1 : ((Tryd.prog.fieldsOf 156)[1]?).map (fun f => Tryd.prog.underlying f.type) = some (some (.int .u8)) := by kernel_rfl
theorem ent_f2 : ((Tryd.prog.fieldsOf 156)[2]?).map (fun f => Tryd.prog.underlying f.type) = some (some (.int .u16)) := by kernel_rfl
theorem ent_f3 : ((Tryd.prog.fieldsOf 156)[3]?).map (fun f => Tryd.prog.underlying f.type) = some (some (.int .u32)) := by kernel_rfl
theorem ent_f4 : ((Tryd.prog.fieldsOf 156)[4]?).map (fun f => Tryd.prog.underlying f.type) = some (some (.int .u32)) := by kernel_rfl
theorem ent_f5 : ((Tryd.prog.fieldsOf 156)[5]?).map (·.type) = some 93 := by kernel_rfl
theorem ent_f6 : ((Tryd.prog.fieldsOf 156)[6]?).map (·.type) = some 9 := by kernel_rfl
theorem u8_cells1 : Tryd.prog.cellsOf 5 = 1 := by kernel_rfl
theorem field_int2 {n fuel : Nat} {j : Nat} {k : IntKind} {fs : Array Field} (hf : (fs[j]?).map (fun f => Tryd.prog.underlying f.type) = some (some (.int k))) {a : Addr} {ys : List (DataW H × List MemPlace)}
    (h : ∀ (j : Nat) (f : Field), fs[j]? = some f → ∃ (v : Value) (y : DataW H × List MemPlace), w.cell? (a.add (n + j)) = some v ∧ ys[j]? = some y ∧ DataW.trod enc Tryd.prog w base spare held fuel f.type [v] = some y) :
    ∃ x : Int, w.cell? (a.add (n + j)) = some (.int k x) ∧ (Lit.int k x).wf = true := by
  obtain ⟨f, hf1, hf2⟩ := Option.map_eq_some_iff.1 hf
  obtain ⟨v, y, hc, _, htr⟩ := h j f hf1
  obtain ⟨x, hx, _, hw⟩ := DataW.trod_int hf2 htr
  simp at hx
  subst hx
  exact ⟨x, hc, hw⟩
theorem field_string {n fuel : Nat} {j : Nat} {fs : Array Field} (hf : (fs[j]?).map (·.type) = some 9) {a : Addr} {ys : List (DataW H × List MemPlace)}
    (h : ∀ (j : Nat) (f : Field), fs[j]? = some f → ∃ (v : Value) (y : DataW H × List MemPlace), w.cell? (a.add (n + j)) = some v ∧ ys[j]? = some y ∧ DataW.trod enc Tryd.prog w base spare held fuel f.type [v] = some y) :
    ∃ x : ByteArray, w.cell? (a.add (n + j)) = some (.string x) ∧ x.size ≤ 9223372036854775807 := by
  obtain ⟨f, hf1, hf2⟩ := Option.map_eq_some_iff.1 hf
  obtain ⟨v, y, hc, _, htr⟩ := h j f hf1
  rw [hf2] at htr
  obtain ⟨x, hx, _, hw⟩ := DataW.trod_string Tryd.underlying9 htr
  simp at hx
  subst hx
  exact ⟨x, hc, by unfold maxLen at hw; omega⟩
theorem field_bytes {n fuel : Nat} {j : Nat} {fs : Array Field} (hf : (fs[j]?).map (·.type) = some 93) {a : Addr} {ys : List (DataW H × List MemPlace)}
    (h : ∀ (j : Nat) (f : Field), fs[j]? = some f → ∃ (v : Value) (y : DataW H × List MemPlace), w.cell? (a.add (n + j)) = some v ∧ ys[j]? = some y ∧ DataW.trod enc Tryd.prog w base spare held fuel f.type [v] = some y) :
    ∃ (A : Option Addr) (k c : Nat) (dat : Nat → Nat), w.cell? (a.add (n + j)) = some (.slice A k c) ∧ k ≤ 9223372036854775807 ∧ (∀ i, dat i < 256) ∧ BytesV w A k dat ∧ SliceOk A k c := by
  obtain ⟨f, hf1, hf2⟩ := Option.map_eq_some_iff.1 hf
  obtain ⟨v, y, hc, _, htr⟩ := h j f hf1
  rw [hf2] at htr
  rcases open_ints Tryd.underlying93 Tryd.underlying5 u8_cells1 htr with ⟨hx, _⟩ | ⟨ad, len, cap, zs, hx, _, hl, hm, hz, _, hcell, hwf⟩
  · simp at hx
    subst hx
    exact ⟨none, 0, 0, fun _ => 0, hc, by omega, fun _ => by show 0 < 256; omega, fun h => by omega, fun _ => ⟨rfl, rfl⟩⟩
  · simp at hx
    subst hx
    have hr := range_u8 hwf
    have hlz : len ≤ zs.length := by rw [hz]; split <;> omega
    refine ⟨some ad, len, cap, fun i => (zs[i]?.getD 0).toNat, hc, by unfold maxLen at hm; omega, fun i => by have := hr i; show (zs[i]?.getD 0).toNat < 256; omega, fun _ => ⟨ad, rfl, fun i hi => ?_⟩, fun e => by cases e⟩
    have := hr i
    rw [hcell i (by omega), List.getD_eq_getElem?_getD]
    have e9 : zs[i]?.getD 0 = ((zs[i]?.getD 0).toNat : Int) := by omega
    exact congrArg (fun z => some (Value.int .u8 z)) e9

set_option maxRecDepth 100000 in
theorem open_ents {a : Option Addr} {len cap : Nat} {x : DataW H × List MemPlace} {fuel : Nat} (hf : DataW.trod enc Tryd.prog w base spare held fuel 83 [.slice a len cap] = some x) : ArgF8 w a len cap := by
  rcases open_slice_fields Tryd.underlying83 ent_und ent_one (by rw [ent_cells, ent_fs]) hf with ⟨hcs, _⟩ | ⟨x, l, c, m, D, Pl, hcs, _, hl, hm, hmm, _, hi⟩
  · simp at hcs
    obtain ⟨rfl, rfl, rfl⟩ := hcs
    exact ⟨by omega, fun _ => ⟨[], rfl, fun j x h => by simp at h⟩⟩
  · simp at hcs
    obtain ⟨rfl, rfl, rfl⟩ := hcs
    have hlm : len ≤ m := by rw [hmm]; split <;> omega
    refine ⟨by unfold maxLen at hm; omega, fun h300 => ?_⟩
    rcases Nat.eq_zero_or_pos len with rfl | hpos
    · exact ⟨[], rfl, fun k r h => by simp at h⟩
    have hsp : x.spot = none := by
      obtain ⟨ys, n, _, _, _, hfl⟩ := hi 0 (by omega)
      rw [ent_fs] at hfl
      obtain ⟨x0, c0, w0⟩ := field_string ent_f0 hfl
      have h1 := World.cell?_spot c0
      simpa [Addr.add] using h1
    have key : ∀ i, i < len → ∃ r : Ent, ∃ b off A c, x = ⟨b, off, none⟩ ∧ EntCell w b (off + i * 7) r A c ∧ BytesV w A r.n r.dat ∧ SliceOk A r.n c ∧ EntFit r := by
      intro i hil
      obtain ⟨ys, n, _, _, _, hfl⟩ := hi i (by omega)
      rw [ent_fs] at hfl
      obtain ⟨x0, c0, w0⟩ := field_string ent_f0 hfl
      obtain ⟨x1, c1, w1⟩ := field_int2 ent_f1 hfl
      obtain ⟨x2, c2, w2⟩ := field_int2 ent_f2 hfl
      obtain ⟨x3, c3, w3⟩ := field_int2 ent_f3 hfl
      obtain ⟨x4, c4, w4⟩ := field_int2 ent_f4 hfl
      obtain ⟨A, k, cc, dat, c5, hk, hd, hB, hok⟩ := field_bytes ent_f5 hfl
      obtain ⟨x6, c6, w6⟩ := field_string ent_f6 hfl
      obtain ⟨b, off, sp⟩ := x
      obtain rfl : sp = none := hsp
      rw [add_flat] at c0 c1 c2 c3 c4 c5 c6
      have b1 : 0 ≤ x1 := (bounds_u8 w1).1
      have b2 : 0 ≤ x2 := (bounds_u16 w2).1
      have b3 : 0 ≤ x3 := (bounds_u32 w3).1
      have b4 : 0 ≤ x4 := (bounds_u32 w4).1
      obtain ⟨x1, rfl⟩ := Int.eq_ofNat_of_zero_le b1
      obtain ⟨x2, rfl⟩ := Int.eq_ofNat_of_zero_le b2
      obtain ⟨x3, rfl⟩ := Int.eq_ofNat_of_zero_le b3
      obtain ⟨x4, rfl⟩ := Int.eq_ofNat_of_zero_le b4
      exact ⟨⟨x0, x1, x2, x3, x4, k, dat, x6⟩, b, off, A, cc, rfl, ⟨c0, c1, c2, c3, c4, c5, c6⟩, hB, hok, ⟨w0, w6, hk, hd⟩⟩
    obtain ⟨lst, hlen, hall⟩ := list_of (P := fun i r => ∃ b off A c, x = ⟨b, off, none⟩ ∧ EntCell w b (off + i * 7) r A c ∧ BytesV w A r.n r.dat ∧ SliceOk A r.n c ∧ EntFit r) len key
    refine ⟨lst, hlen, fun k r hr => ?_⟩
    obtain ⟨b, off, A, c, hx, h1, h2, h3, h4⟩ := hall k r hr
    exact ⟨b, off, A, c, by rw [hx], h1, h2, h3, h4⟩
theorem files_cells : Tryd.prog.cellsOf 85 = 2 := by kernel_rfl
set_option maxRecDepth 100000 in
theorem open_files {b0 : Nat} {v : Value} {d : DataW H} {p : List MemPlace} (hv : Value.okWide Tryd.prog w .any b0 85 v) (h : DataW.Trod enc Tryd.prog w base spare held 85 v d p) :
    ∃ P n cap N, v = .agg #[.slice P n cap, .int .i64 N] ∧ ArgF8 w P n cap ∧ (Lit.int .i64 N).wf = true := by
  obtain ⟨v0, v1, y0, y1, n, rfl, _, _, e0, e1⟩ := open_agg2 Tryd.underlying85 (by kernel_rfl) files_cells hv h
  obtain ⟨x1, h1, _, w1⟩ := DataW.trod_int Tryd.underlying3 e1
  simp at h1
  subst h1
  rcases open_slice_fields Tryd.underlying83 ent_und ent_one (by rw [ent_cells, ent_fs]) e0 with ⟨hcs, _⟩ | ⟨x, l, c, m, D, Pl, hcs, _, hl, hm, hmm, _, hi⟩
  · simp at hcs
    subst hcs
    exact ⟨_, _, _, _, rfl, open_ents e0, w1⟩
  · simp at hcs
    subst hcs
    exact ⟨_, _, _, _, rfl, open_ents e0, w1⟩
end

end Go.Proofs.YtmkgdgfbdmjeeaaDoor
