/- Regions: what comes in at RegionsFollow: a slice of changes. -/
import Derived.Test.YtdkhgofnhemhmaaRegR
namespace Go.Proofs.Ytdkhgofnhemhmaa
open Go.ChangeShapes Go.WideShapes Go.ChangeAt Go.RowKit Go.Deep Go.Joins
set_option linter.unusedSimpArgs false
set_option linter.unusedVariables false

/-- Six cells read as a change. -/
structure ChAt (w : World) (b o : Nat) (d : Int) (r : Reg) : Prop where
  d0 : w.cell? ⟨b, o, none⟩ = some (.int .i64 d)
  r0 : w.cell? ⟨b, o + 1, none⟩ = some (.int .u64 r.fr)
  r1 : w.cell? ⟨b, o + 2, none⟩ = some (.int .u64 r.to)
  r2 : w.cell? ⟨b, o + 3, none⟩ = some (.int .u8 r.prot)
  r3 : w.cell? ⟨b, o + 4, none⟩ = some (.int .i64 r.ino)
  r4 : w.cell? ⟨b, o + 5, none⟩ = some (.int .u64 r.off)

theorem ChAt.below {w w' : World} {B b o : Nat} {d : Int} {r : Reg} (h : ChAt w b o d r) (hb : Below B w w') (hB : b < B) : ChAt w' b o d r :=
  ⟨(hb.cell (p := ⟨b, _, none⟩) hB).trans h.d0, (hb.cell (p := ⟨b, _, none⟩) hB).trans h.r0, (hb.cell (p := ⟨b, _, none⟩) hB).trans h.r1, (hb.cell (p := ⟨b, _, none⟩) hB).trans h.r2, (hb.cell (p := ⟨b, _, none⟩) hB).trans h.r3, (hb.cell (p := ⟨b, _, none⟩) hB).trans h.r4⟩

/-- What a slice of changes that came in is good for. -/
def ArgC (w : World) (a : Option Addr) (len cap : Nat) : Prop := len ≤ 9223372036854775807 ∧ ∀ i, i < len → ∃ b off d r, Reg.Ok r ∧ a = some ⟨b, off, none⟩ ∧ b < w.heap.size ∧ ChAt w b (off + i * 6) d r

theorem ch_und : Try.prog.underlying 50 = some (.struct (Try.prog.fieldsOf 50)) := by kernel_rfl
theorem ch_cells : Try.prog.cellsOf 50 = 6 := by kernel_rfl
theorem ch_f0 : ((Try.prog.fieldsOf 50)[0]?).map (fun f => (f.type, f.offset)) = some (3, 0) := by kernel_rfl
theorem ch_f1 : ((Try.prog.fieldsOf 50)[1]?).map (fun f => (f.type, f.offset)) = some (25, 1) := by kernel_rfl
theorem int_cells : Try.prog.cellsOf 3 = 1 := by kernel_rfl

section
variable {H : Type} {enc : TypeId × Value → H} {w : World} {base : Nat} {spare : Nat → Bool} {held : Bool}
/-- a field of one cell at its place -/
theorem field_at {fs : Array Field} {j n fuel : Nat} {t : TypeId} {k : IntKind} {cs : List Value} {xs : List (DataW H × List MemPlace)} (hf : (fs[j]?).map (·.type) = some t) (hone : oneCellFields Try.prog fs = true) (ht : Try.prog.underlying t = some (.int k))
    (hn : cs.length = n) (hjn : j < n) (hx : xs.length = fs.size)
    (h : ∀ (i : Nat) (f : Field), fs[i]? = some f → DataW.trod enc Try.prog w base spare held fuel f.type ((cs.drop f.offset).take (Try.prog.cellsOf f.type)) = xs[i]?) :
    ∃ x : Int, cs[j]? = some (.int k x) ∧ (Lit.int k x).wf = true := by
  obtain ⟨f, hf1, hf2⟩ := Option.map_eq_some_iff.1 hf
  have h1 := h j f hf1
  obtain ⟨ho, hk⟩ := hone_of hone j f hf1
  rw [ho, hk, hf2] at h1
  have hjx : j < fs.size := (Array.getElem?_eq_some_iff.1 hf1).1
  have hys : xs[j]? = some (xs[j]'(by omega)) := List.getElem?_eq_getElem (by omega)
  rw [hys] at h1
  obtain ⟨x, hc, _, hw⟩ := DataW.trod_int ht h1
  refine ⟨x, ?_, hw⟩
  have h2 := congrArg (·[0]?) hc
  simpa [List.getElem?_take, List.getElem?_drop] using h2

theorem open_changes {a : Option Addr} {len cap : Nat} {d : DataW H} {p : List MemPlace} (h : DataW.Trod enc Try.prog w base spare held 48 (.slice a len cap) d p) : ArgC w a len cap := by
  obtain ⟨fuel, hf⟩ := h
  rcases open_slice Try.underlying48 hf with ⟨hcs, _⟩ | ⟨x, l, c, m, n, D, Pl, hcs, _, hl, hm, hmm, _, hi⟩
  · simp [Value.cells] at hcs
    obtain ⟨rfl, rfl, rfl⟩ := hcs
    exact ⟨by omega, fun i hi => absurd hi (by omega)⟩
  · simp [Value.cells] at hcs
    obtain ⟨rfl, rfl, rfl⟩ := hcs
    have hlm : len ≤ m := by rw [hmm]; split <;> omega
    refine ⟨by unfold maxLen at hm; omega, fun i hil => ?_⟩
    have hsp : x.spot = none := by
      obtain ⟨cs, hc, ht⟩ := hi 0 (by omega)
      rw [ch_cells] at hc
      obtain ⟨_, hcl, hat⟩ := World.cells?_some hc
      have h0 := hat 0 (by omega)
      rw [List.getElem?_eq_getElem (by omega)] at h0
      have h1 := World.cell?_spot h0
      simpa [Addr.add] using h1
    obtain ⟨cs, hc, ht⟩ := hi i (by omega)
    rw [ch_cells] at hc
    obtain ⟨_, hcl, hat⟩ := World.cells?_some hc
    obtain ⟨ys, n', _, _, _, hyl, hfs⟩ := DataW.trod_struct ch_und ht
    obtain ⟨f0, hf0, hf0'⟩ := Option.map_eq_some_iff.1 ch_f0
    obtain ⟨f1, hf1, hf1'⟩ := Option.map_eq_some_iff.1 ch_f1
    have g0 := hfs 0 f0 hf0
    have g1 := hfs 1 f1 hf1
    simp only [Prod.mk.injEq] at hf0' hf1'
    rw [hf0'.1, hf0'.2, int_cells] at g0
    rw [hf1'.1, hf1'.2, reg_cells] at g1
    have z0 : 0 < (Try.prog.fieldsOf 50).size := (Array.getElem?_eq_some_iff.1 hf0).1
    have z1 : 1 < (Try.prog.fieldsOf 50).size := (Array.getElem?_eq_some_iff.1 hf1).1
    rw [List.getElem?_eq_getElem (by omega)] at g0 g1
    obtain ⟨d0, e0, _, _⟩ := DataW.trod_int Try.underlying3 g0
    obtain ⟨zs, n2, _, _, _, hzl, hgs⟩ := DataW.trod_struct reg_und g1
    have hcs5 : ((cs.drop 1).take 5).length = 5 := by simp [hcl]
    obtain ⟨x0, c0, w0⟩ := field_at reg_f0 reg_one Try.underlying23 hcs5 (by omega) hzl hgs
    obtain ⟨x1, c1, w1⟩ := field_at reg_f1 reg_one Try.underlying23 hcs5 (by omega) hzl hgs
    obtain ⟨x2, c2, w2⟩ := field_at reg_f2 reg_one Try.underlying5 hcs5 (by omega) hzl hgs
    obtain ⟨x3, c3, w3⟩ := field_at reg_f3 reg_one Try.underlying3 hcs5 (by omega) hzl hgs
    obtain ⟨x4, c4, w4⟩ := field_at reg_f4 reg_one Try.underlying23 hcs5 (by omega) hzl hgs
    have q0 : cs[0]? = some (.int .i64 d0) := by
      match cs, e0 with
      | v :: t, e0 => simp at e0; simp [e0]
    simp [List.getElem?_take, List.getElem?_drop] at c0 c1 c2 c3 c4
    have a0 := (hat 0 (by omega)).trans q0
    have a1 := (hat 1 (by omega)).trans c0
    have a2 := (hat 2 (by omega)).trans c1
    have a3 := (hat 3 (by omega)).trans c2
    have a4 := (hat 4 (by omega)).trans c3
    have a5 := (hat 5 (by omega)).trans c4
    obtain ⟨b, off, sp⟩ := x
    obtain rfl : sp = none := hsp
    have e : ∀ j, ((⟨b, off, none⟩ : Addr).add (i * 6)).add j = ⟨b, off + i * 6 + j, none⟩ := fun j => by
      simp [Addr.add]
      split <;> split <;> simp_all
    rw [e] at a0 a1 a2 a3 a4 a5
    exact ⟨b, off, d0, ⟨x0, x1, x2, x3, x4⟩, reg_ok w0 w1 w2 w3 w4, rfl, World.block_lt_of_cell? w _ a1, ⟨a0, a1, a2, a3, a4, a5⟩⟩
end

end Go.Proofs.Ytdkhgofnhemhmaa
