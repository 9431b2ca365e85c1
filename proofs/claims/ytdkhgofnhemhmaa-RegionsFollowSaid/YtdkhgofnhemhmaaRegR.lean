/- Regions: what comes in: a slice of regions, a region; the statements RegionsGaps and RegionsPuts, lifted. The two openers of structs are the guide's own (howto/extra-structs.md), as it asks them to be copied. -/
import Derived.Test.YtdkhgofnhemhmaaRegQ
import Derived.ProofKit
import Derived.OpenShut
import Derived.ChangeOld
import Derived.ChangeSame
import Derived.Deep.Slices
import Derived.Deep.Fields
import Derived.Lib.SmallJoins
namespace Go.Proofs.Ytdkhgofnhemhmaa
open Go.ChangeShapes Go.WideShapes Go.ChangeAt Go.RowKit Go.Deep Go.Joins
set_option linter.unusedSimpArgs false
set_option linter.unusedVariables false

section
variable {H : Type} {enc : TypeId × Value → H} {P : Program} {w : World} {base : Nat} {spare : Nat → Bool} {held : Bool}
theorem open_slice_fields {t e : TypeId} {fs : Array Field} {fuel : Nat} {cs : List Value} {x : DataW H × List MemPlace} (ht : P.underlying t = some (.slice e)) (he : P.underlying e = some (.struct fs))
    (hone : oneCellFields P fs = true) (hC : P.cellsOf e = fs.size) (h : DataW.trod enc P w base spare held fuel t cs = some x) :
    (cs = [.slice none 0 0] ∧ x = (.nil, [])) ∨
    ∃ (a : Addr) (len cap m : Nat) (D : Nat → DataW H) (Pl : Nat → List MemPlace), cs = [.slice (some a) len cap] ∧ base ≤ a.block ∧ len ≤ cap ∧ cap ≤ maxLen ∧ m = (if spare a.block then cap else len) ∧
      x = (.slice ((List.range len).map D) ((List.range (m - len)).map fun j => D (len + j)), MemPlace.row a (m * fs.size) ++ (List.range m).flatMap Pl) ∧
      ∀ i, i < m → ∃ (ys : List (DataW H × List MemPlace)) (n : Nat), D i = .agg (ys.map (·.1)) ∧ Pl i = ys.flatMap (·.2) ∧ ys.length = fs.size ∧
        ∀ (j : Nat) (f : Field), fs[j]? = some f → ∃ (v : Value) (y : DataW H × List MemPlace), w.cell? (a.add (i * fs.size + j)) = some v ∧ ys[j]? = some y ∧ DataW.trod enc P w base spare held n f.type [v] = some y := by
  rcases open_slice ht h with h0 | ⟨a, len, cap, m, n, D, Pl, hcs, hb, hl, hm, hmm, hx, hi⟩
  · exact .inl h0
  · refine .inr ⟨a, len, cap, m, D, Pl, hcs, hb, hl, hm, hmm, by rw [hC] at hx; exact hx, fun i him => ?_⟩
    obtain ⟨cs', hc, ht'⟩ := hi i him
    rw [hC] at hc
    obtain ⟨ys, n', hn', hy, hlen, hyl, hf⟩ := DataW.trod_struct he ht'
    obtain ⟨_, hcl, hat⟩ := World.cells?_some hc
    simp only [Prod.mk.injEq] at hy
    refine ⟨ys, n', hy.1, hy.2, hyl, fun j f hj => ?_⟩
    obtain ⟨ho, hk⟩ := hone_of hone j f hj
    have hjl : j < fs.size := (Array.getElem?_eq_some_iff.1 hj).1
    have hcell := hat j hjl
    have hv : cs'[j]? = some (cs'[j]'(by omega)) := List.getElem?_eq_getElem (by omega)
    have h1 := hf j f hj
    rw [ho, hk] at h1
    have hone' : (cs'.drop j).take 1 = [cs'[j]'(by omega)] := by
      rw [List.drop_eq_getElem_cons (by omega)]
      rfl
    rw [hone'] at h1
    have hys : ys[j]? = some (ys[j]'(by omega)) := List.getElem?_eq_getElem (by omega)
    refine ⟨_, _, ?_, hys, h1.trans hys⟩
    rw [← Go.Deep.add_add, hcell, hv]
end

section
variable {H : Type} {enc : TypeId × Value → H} {P : Program} {w : World} {base : Nat} {spare : Nat → Bool} {held : Bool}
theorem open_agg5 {r : Reach} {b0 : Nat} {t : TypeId} {f0 f1 f2 f3 f4 : Field} {v : Value} {d : DataW H} {p : List MemPlace} (hs : P.underlying t = some (.struct #[f0, f1, f2, f3, f4])) (hone : oneCellFields P #[f0, f1, f2, f3, f4] = true) (hC : P.cellsOf t = 5)
    (hv : Value.okWide P w r b0 t v) (h : DataW.Trod enc P w base spare held t v d p) :
    ∃ (v0 v1 v2 v3 v4 : Value) (y0 y1 y2 y3 y4 : DataW H × List MemPlace) (n : Nat), v = .agg #[v0, v1, v2, v3, v4] ∧ d = .agg [y0.1, y1.1, y2.1, y3.1, y4.1] ∧ p = y0.2 ++ (y1.2 ++ (y2.2 ++ (y3.2 ++ y4.2))) ∧
      DataW.trod enc P w base spare held n f0.type [v0] = some y0 ∧ DataW.trod enc P w base spare held n f1.type [v1] = some y1 ∧ DataW.trod enc P w base spare held n f2.type [v2] = some y2 ∧ DataW.trod enc P w base spare held n f3.type [v3] = some y3 ∧ DataW.trod enc P w base spare held n f4.type [v4] = some y4 := by
  obtain ⟨cs, rfl, hsz⟩ := okWide_struct hs hv
  obtain ⟨l⟩ := cs
  match l, hsz.trans hC with
  | [c0, c1, c2, c3, c4], _ =>
    obtain ⟨fuel, hf⟩ := h
    obtain ⟨xs, n, _, hx, _, hlen, hg⟩ := DataW.trod_struct hs hf
    obtain ⟨o0, k0⟩ := hone_of hone 0 f0 rfl
    obtain ⟨o1, k1⟩ := hone_of hone 1 f1 rfl
    obtain ⟨o2, k2⟩ := hone_of hone 2 f2 rfl
    obtain ⟨o3, k3⟩ := hone_of hone 3 f3 rfl
    obtain ⟨o4, k4⟩ := hone_of hone 4 f4 rfl
    match xs, hlen with
    | [y0, y1, y2, y3, y4], _ =>
      simp only [Prod.mk.injEq] at hx
      exact ⟨c0, c1, c2, c3, c4, y0, y1, y2, y3, y4, n, rfl, by simpa using hx.1, by simpa using hx.2, by simpa [Value.cells, o0, k0] using hg 0 f0 rfl, by simpa [Value.cells, o1, k1] using hg 1 f1 rfl, by simpa [Value.cells, o2, k2] using hg 2 f2 rfl, by simpa [Value.cells, o3, k3] using hg 3 f3 rfl, by simpa [Value.cells, o4, k4] using hg 4 f4 rfl⟩

end

theorem list_of {P : Nat → Reg → Prop} : ∀ n : Nat, (∀ i, i < n → ∃ r, P i r) → ∃ l : List Reg, l.length = n ∧ ∀ k r, l[k]? = some r → P k r
  | 0, _ => ⟨[], rfl, fun k r h => by simp at h⟩
  | n + 1, h => by
    obtain ⟨l, hl, hp⟩ := list_of n (fun i hi => h i (by omega))
    obtain ⟨r, hr⟩ := h n (by omega)
    refine ⟨l ++ [r], by simp [hl], fun k x hx => ?_⟩
    by_cases hk : k < l.length
    · rw [List.getElem?_append_left hk] at hx
      exact hp k x hx
    · rw [List.getElem?_append_right (by omega)] at hx
      have h0 : k - l.length = 0 := by
        have := (List.getElem?_eq_some_iff.1 hx).1
        simp at this
        omega
      rw [h0] at hx
      simp at hx
      subst hx
      have : k = n := by omega
      subst this
      exact hr

theorem reg_ok {a b c d e : Int} (h0 : (Lit.int .u64 a).wf = true) (h1 : (Lit.int .u64 b).wf = true) (h2 : (Lit.int .u8 c).wf = true) (h3 : (Lit.int .i64 d).wf = true) (h4 : (Lit.int .u64 e).wf = true) : Reg.Ok ⟨a, b, c, d, e⟩ :=
  ⟨(bounds_u64 h0).1, (bounds_u64 h0).2, (bounds_u64 h1).1, (bounds_u64 h1).2, (bounds_u8 h2).1, (bounds_u8 h2).2, (bounds_i64 h3).1, (bounds_i64 h3).2, (bounds_u64 h4).1, (bounds_u64 h4).2⟩

theorem reg_one : oneCellFields Try.prog (Try.prog.fieldsOf 25) = true := by kernel_rfl
theorem reg_und : Try.prog.underlying 25 = some (.struct (Try.prog.fieldsOf 25)) := by kernel_rfl
theorem reg_cells : Try.prog.cellsOf 25 = 5 := by kernel_rfl
theorem reg_fs : (Try.prog.fieldsOf 25).size = 5 := by kernel_rfl
theorem reg_f0 : ((Try.prog.fieldsOf 25)[0]?).map (·.type) = some 23 := by kernel_rfl
theorem reg_f1 : ((Try.prog.fieldsOf 25)[1]?).map (·.type) = some 23 := by kernel_rfl
theorem reg_f2 : ((Try.prog.fieldsOf 25)[2]?).map (·.type) = some 5 := by kernel_rfl
theorem reg_f3 : ((Try.prog.fieldsOf 25)[3]?).map (·.type) = some 3 := by kernel_rfl
theorem reg_f4 : ((Try.prog.fieldsOf 25)[4]?).map (·.type) = some 23 := by kernel_rfl

/-- What a slice of regions that came in is good for. -/
def ArgR (w : World) (a : Option Addr) (len cap : Nat) : Prop := len ≤ 9223372036854775807 ∧ (len ≤ 300 → ∃ l : List Reg, RSl w w.heap.size a len cap l ∧ AllOk l)

section
variable {H : Type} {enc : TypeId × Value → H} {w : World} {base : Nat} {spare : Nat → Bool} {held : Bool}
theorem field_int {n fuel : Nat} {j : Nat} {k : IntKind} {t : TypeId} {fs : Array Field} (hf : (fs[j]?).map (·.type) = some t) (ht : Try.prog.underlying t = some (.int k)) {a : Addr} {ys : List (DataW H × List MemPlace)}
    (h : ∀ (j : Nat) (f : Field), fs[j]? = some f → ∃ (v : Value) (y : DataW H × List MemPlace), w.cell? (a.add (n + j)) = some v ∧ ys[j]? = some y ∧ DataW.trod enc Try.prog w base spare held fuel f.type [v] = some y) :
    ∃ x : Int, w.cell? (a.add (n + j)) = some (.int k x) ∧ (Lit.int k x).wf = true := by
  obtain ⟨f, hf1, hf2⟩ := Option.map_eq_some_iff.1 hf
  obtain ⟨v, y, hc, _, htr⟩ := h j f hf1
  rw [hf2] at htr
  obtain ⟨x, hx, _, hw⟩ := DataW.trod_int ht htr
  simp at hx
  subst hx
  exact ⟨x, hc, hw⟩

theorem open_regs {a : Option Addr} {len cap : Nat} {d : DataW H} {p : List MemPlace} (h : DataW.Trod enc Try.prog w base spare held 22 (.slice a len cap) d p) : ArgR w a len cap := by
  obtain ⟨fuel, hf⟩ := h
  rcases open_slice_fields Try.underlying22 reg_und reg_one (by rw [reg_cells, reg_fs]) hf with ⟨hcs, _⟩ | ⟨x, l, c, m, D, Pl, hcs, _, hl, hm, hmm, _, hi⟩
  · simp [Value.cells] at hcs
    obtain ⟨rfl, rfl, rfl⟩ := hcs
    exact ⟨by omega, fun _ => ⟨[], ⟨rfl, Nat.le_refl _, by omega, fun k r h => by simp at h⟩, fun r h => by simp at h⟩⟩
  · simp [Value.cells] at hcs
    obtain ⟨rfl, rfl, rfl⟩ := hcs
    have hlm : len ≤ m := by rw [hmm]; split <;> omega
    refine ⟨by unfold maxLen at hm; omega, fun h300 => ?_⟩
    rcases Nat.eq_zero_or_pos len with rfl | hpos
    · exact ⟨[], ⟨rfl, hl, by omega, fun k r h => by simp at h⟩, fun r h => by simp at h⟩
    have hsp : x.spot = none := by
      obtain ⟨ys, n, _, _, _, hfl⟩ := hi 0 (by omega)
      rw [reg_fs] at hfl
      obtain ⟨x0, c0, w0⟩ := field_int reg_f0 Try.underlying23 hfl
      have h1 := World.cell?_spot c0
      simpa [Addr.add] using h1
    have key : ∀ i, i < len → ∃ r : Reg, r.Ok ∧ ∃ b off, x = ⟨b, off, none⟩ ∧ b < w.heap.size ∧ RegAt w b (off + i * 5) r := by
      intro i hil
      obtain ⟨ys, n, _, _, _, hfl⟩ := hi i (by omega)
      rw [reg_fs] at hfl
      obtain ⟨x0, c0, w0⟩ := field_int reg_f0 Try.underlying23 hfl
      obtain ⟨x1, c1, w1⟩ := field_int reg_f1 Try.underlying23 hfl
      obtain ⟨x2, c2, w2⟩ := field_int reg_f2 Try.underlying5 hfl
      obtain ⟨x3, c3, w3⟩ := field_int reg_f3 Try.underlying3 hfl
      obtain ⟨x4, c4, w4⟩ := field_int reg_f4 Try.underlying23 hfl
      obtain ⟨b, off, sp⟩ := x
      obtain rfl : sp = none := hsp
      have e : ∀ j, (⟨b, off, none⟩ : Addr).add (i * 5 + j) = ⟨b, off + i * 5 + j, none⟩ := fun j => by
        unfold Addr.add
        split
        · have : i * 5 = 0 ∧ j = 0 := by omega
          simp [this.1, this.2]
        · show (⟨b, off + (i * 5 + j), none⟩ : Addr) = _
          rw [Nat.add_assoc]
      rw [e] at c0 c1 c2 c3 c4
      exact ⟨⟨x0, x1, x2, x3, x4⟩, reg_ok w0 w1 w2 w3 w4, b, off, rfl, World.block_lt_of_cell? w _ c0, ⟨c0, c1, c2, c3, c4⟩⟩
    obtain ⟨lst, hlen, hall⟩ := list_of (P := fun i r => r.Ok ∧ ∃ b off, x = ⟨b, off, none⟩ ∧ b < w.heap.size ∧ RegAt w b (off + i * 5) r) len key
    refine ⟨lst, ⟨hlen, hl, by omega, fun k r hr => ?_⟩, fun r hr => ?_⟩
    · obtain ⟨_, b, off, hx, hb, hra⟩ := hall k r hr
      exact ⟨b, off, by rw [hx], hb, hra⟩
    · obtain ⟨k, hk, e⟩ := List.mem_iff_getElem.1 hr
      exact (hall k r (by rw [List.getElem?_eq_getElem hk, e])).1

theorem open_reg {b0 : Nat} {v : Value} {d : DataW H} {p : List MemPlace} (hv : Value.okWide Try.prog w .any b0 25 v) (h : DataW.Trod enc Try.prog w base spare held 25 v d p) :
    ∃ r : Reg, r.Ok ∧ v = .agg #[.int .u64 (r).fr, .int .u64 (r).to, .int .u8 (r).prot, .int .i64 (r).ino, .int .u64 (r).off] := by
  obtain ⟨c0, c1, c2, c3, c4, y0, y1, y2, y3, y4, n, rfl, _, _, e0, e1, e2, e3, e4⟩ := open_agg5 Try.underlying25 (by kernel_rfl) reg_cells hv h
  obtain ⟨x0, h0, _, w0⟩ := DataW.trod_int Try.underlying23 e0
  obtain ⟨x1, h1, _, w1⟩ := DataW.trod_int Try.underlying23 e1
  obtain ⟨x2, h2, _, w2⟩ := DataW.trod_int Try.underlying5 e2
  obtain ⟨x3, h3, _, w3⟩ := DataW.trod_int Try.underlying3 e3
  obtain ⟨x4, h4, _, w4⟩ := DataW.trod_int Try.underlying23 e4
  simp at h0 h1 h2 h3 h4
  subst h0 h1 h2 h3 h4
  exact ⟨⟨x0, x1, x2, x3, x4⟩, reg_ok w0 w1 w2 w3 w4, rfl⟩
end

end Go.Proofs.Ytdkhgofnhemhmaa
