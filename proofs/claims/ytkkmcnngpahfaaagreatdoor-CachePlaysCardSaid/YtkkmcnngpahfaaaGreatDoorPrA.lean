/- What comes in: what is done with a table; the table of math/bits that start-up lays. The openers of structs are the guide's own (howto/extra-structs.md), as it asks them to be copied. What comes in: a list of what is done with a table. -/
import Derived.Test.YtkkmcnngpahfaaaGreatDoorTfZ
import Derived.ProofKit
import Derived.OpenShut
import Derived.ChangeOld
import Derived.ChangeSame
import Derived.Deep.Slices
import Derived.Deep.Fields
import Derived.Lib.SmallJoins
import Derived.Lib.LaidTab
import Derived.Lib.TrailingZeros
import Derived.LaidMore
import Derived.Stop.Joined

namespace Go.Proofs.YtkkmcnngpahfaaaGreatDoor
open Go.ChangeShapes Go.WideShapes Go.ChangeAt Go.RowKit Go.Deep Go.Joins
set_option linter.unusedSimpArgs false
set_option linter.unusedVariables false

theorem own : ownKnob Tryz.prog.godebug = none := by kernel_rfl
theorem laidOut : laidOutB Tryz.prog = true := by kernel_rfl
/-- The row's condition gives the walks' fact. -/
theorem laid_is {H : Type} : (Rows.laid_math_bits_deBruijn64tab : DataW H) = Lib.tabData .u8 (Lib.deBruijn64tab.map Int.ofNat) := rfl
theorem gTab : Tryz.prog.globalNamed "math/bits.deBruijn64tab" = some 0 := by kernel_rfl
theorem tTab : (Tryz.prog.globals[0]?).map (·.type) = some 200 := by kernel_rfl
theorem db_of_laid {W : World} (h : laidMetH Tryz.prog [("math/bits.deBruijn64tab", Rows.laid_math_bits_deBruijn64tab)] W) : DB W ∧ 0 < W.heap.size := by
  rw [MakeChecks.laidMetH_plain _ _ _ (by kernel_rfl), laid_is] at h
  have h1 := Lib.tabIs_of_head gTab tTab Tryz.underlying200 Tryz.underlying5 (by kernel_rfl) (by kernel_rfl) h
  have h2 : DB W := fun j hj => by
    have := h1.cell gTab j (by simpa using hj)
    rw [this]
    simp [List.getD, hj]
  exact ⟨h2, (World.block_lt_of_cell? _ _ (h2 0 (by decide)) : 0 < W.heap.size)⟩
/-- The door's own heap meets the condition. -/
theorem door_met (os : Os) (args : Array Value) : laidMetH Tryz.prog [("math/bits.deBruijn64tab", Rows.laid_math_bits_deBruijn64tab)] ((World.doorLaid Tryz.prog 14 os).forCall (fun _ _ => 0) ⟨#[], args, []⟩).memory :=
  laidMetH_of_parts3 (fuel := 8) (laidMet_of_run' 8 (by kernel_rfl) (by kernel_rfl)) (by kernel_rfl) (by kernel_rfl)

section
variable {H : Type} {enc : TypeId × Value → H} {P : Program} {w : World} {base : Nat} {spare : Nat → Bool} {held : Bool}
theorem open_slice_fields {t e : TypeId} {fs : Array Field} {fuel : Nat} {cs : List Value} {x : DataW H × List MemPlace} (ht : P.underlying t = some (.slice e)) (he : P.underlying e = some (.struct fs))
    (hone : oneCellFields P fs = true) (hC : P.cellsOf e = fs.size) (h : DataW.trod enc P w base spare held fuel t cs = some x) :
    (cs = [.slice none 0 0] ∧ x = (.nil, [])) ∨
    ∃ (a : Addr) (len cap m : Nat) (D : Nat → DataW H) (Pl : Nat → List MemPlace), cs = [.slice (some a) len cap] ∧ base ≤ a.block ∧ len ≤ cap ∧ cap ≤ maxLen ∧ m = (if spare a.block then cap else len) ∧
      x = (.slice ((List.range len).map D) ((List.range (m - len)).map fun j => D (len + j)), MemPlace.row a (m * fs.size) ++ (List.range m).flatMap Pl) ∧
      ∀ i, i < m → ∃ (ys : List (DataW H × List MemPlace)) (n : Nat), D i = .agg (ys.map (·.1)) ∧ Pl i = ys.flatMap (·.2) ∧ ys.length = fs.size ∧
        ∀ (j : Nat) (f : Field), fs[j]? = some f → ∃ (v : Value) (y : DataW H × List MemPlace), w.cell? (a.add (i * fs.size + j)) = some v ∧ ys[j]? = some y ∧ DataW.trod enc P w base spare held n f.type [v] = some y := by
  rcases open_slice ht h with h0 | ⟨a, len, cap, m, n, D, Pl, hcs, hb, hl, hm, hmm, hx, hi⟩
  · exact .inl h0
  · refine .inr ⟨a, len, cap, m, D, Pl, hcs, hb, hl, hm, hmm, by rw [hC] at hx; exact hx, fun i him => ?_⟩
    obtain ⟨cs', hc, ht'⟩ := hi i him
    rw [hC] at hc
    obtain ⟨ys, n', hn', hy, hlen, hyl, hf⟩ := DataW.trod_struct he ht'
    obtain ⟨_, hcl, hat⟩ := World.cells?_some hc
    simp only [Prod.mk.injEq] at hy
    refine ⟨ys, n', hy.1, hy.2, hyl, fun j f hj => ?_⟩
    obtain ⟨ho, hk⟩ := hone_of hone j f hj
    have hjl : j < fs.size := (Array.getElem?_eq_some_iff.1 hj).1
    have hcell := hat j hjl
    have hv : cs'[j]? = some (cs'[j]'(by omega)) := List.getElem?_eq_getElem (by omega)
    have h1 := hf j f hj
    rw [ho, hk] at h1
    have hone' : (cs'.drop j).take 1 = [cs'[j]'(by omega)] := by
      rw [List.drop_eq_getElem_cons (by omega)]
      rfl
    rw [hone'] at h1
    have hys : ys[j]? = some (ys[j]'(by omega)) := List.getElem?_eq_getElem (by omega)
    refine ⟨_, _, ?_, hys, h1.trans hys⟩
    rw [← Go.Deep.add_add, hcell, hv]
end

section
variable {H : Type} {enc : TypeId × Value → H} {P : Program} {w : World} {base : Nat} {spare : Nat → Bool} {held : Bool}
theorem open_agg6 {r : Reach} {b0 : Nat} {t : TypeId} {f0 f1 f2 f3 f4 f5 : Field} {v : Value} {d : DataW H} {p : List MemPlace} (hs : P.underlying t = some (.struct #[f0, f1, f2, f3, f4, f5])) (hone : oneCellFields P #[f0, f1, f2, f3, f4, f5] = true) (hC : P.cellsOf t = 6)
    (hv : Value.okWide P w r b0 t v) (h : DataW.Trod enc P w base spare held t v d p) :
    ∃ (v0 v1 v2 v3 v4 v5 : Value) (y0 y1 y2 y3 y4 y5 : DataW H × List MemPlace) (n : Nat), v = .agg #[v0, v1, v2, v3, v4, v5] ∧
      DataW.trod enc P w base spare held n f0.type [v0] = some y0 ∧ DataW.trod enc P w base spare held n f1.type [v1] = some y1 ∧ DataW.trod enc P w base spare held n f2.type [v2] = some y2 ∧ DataW.trod enc P w base spare held n f3.type [v3] = some y3 ∧ DataW.trod enc P w base spare held n f4.type [v4] = some y4 ∧ DataW.trod enc P w base spare held n f5.type [v5] = some y5 := by
  obtain ⟨cs, rfl, hsz⟩ := okWide_struct hs hv
  obtain ⟨l⟩ := cs
  match l, hsz.trans hC with
  | [c0, c1, c2, c3, c4, c5], _ =>
    obtain ⟨fuel, hf⟩ := h
    obtain ⟨xs, n, _, hx, _, hlen, hg⟩ := DataW.trod_struct hs hf
    obtain ⟨o0, k0⟩ := hone_of hone 0 f0 rfl
    obtain ⟨o1, k1⟩ := hone_of hone 1 f1 rfl
    obtain ⟨o2, k2⟩ := hone_of hone 2 f2 rfl
    obtain ⟨o3, k3⟩ := hone_of hone 3 f3 rfl
    obtain ⟨o4, k4⟩ := hone_of hone 4 f4 rfl
    obtain ⟨o5, k5⟩ := hone_of hone 5 f5 rfl
    match xs, hlen with
    | [y0, y1, y2, y3, y4, y5], _ =>
      exact ⟨c0, c1, c2, c3, c4, c5, y0, y1, y2, y3, y4, y5, n, rfl, by simpa [Value.cells, o0, k0] using hg 0 f0 rfl, by simpa [Value.cells, o1, k1] using hg 1 f1 rfl, by simpa [Value.cells, o2, k2] using hg 2 f2 rfl, by simpa [Value.cells, o3, k3] using hg 3 f3 rfl, by simpa [Value.cells, o4, k4] using hg 4 f4 rfl, by simpa [Value.cells, o5, k5] using hg 5 f5 rfl⟩
end

/-- What is done. -/
structure Op where
  kind : Int
  addr : Int
  frame : Int
  prot : Int
  copy : Bool
  n : Int
def Op.val (o : Op) : Value := .agg #[.int .i64 o.kind, .int .u64 o.addr, .int .i64 o.frame, .int .u8 o.prot, .bool o.copy, .int .i64 o.n]
structure Op.Ok (o : Op) : Prop where
  a0 : 0 ≤ o.addr
  a1 : o.addr ≤ 18446744073709551615
  p0 : 0 ≤ o.prot
  p1 : o.prot ≤ 255
  k0 : -9223372036854775808 ≤ o.kind ∧ o.kind ≤ 9223372036854775807
  f0 : -9223372036854775808 ≤ o.frame ∧ o.frame ≤ 9223372036854775807
  n0 : -9223372036854775808 ≤ o.n ∧ o.n ≤ 9223372036854775807
theorem op_ok {a b c d f : Int} {e : Bool} (h0 : (Lit.int .i64 a).wf = true) (h1 : (Lit.int .u64 b).wf = true) (h2 : (Lit.int .i64 c).wf = true) (h3 : (Lit.int .u8 d).wf = true) (h5 : (Lit.int .i64 f).wf = true) : Op.Ok ⟨a, b, c, d, e, f⟩ :=
  ⟨(bounds_u64 h1).1, (bounds_u64 h1).2, (bounds_u8 h3).1, (bounds_u8 h3).2, bounds_i64 h0, bounds_i64 h2, bounds_i64 h5⟩
theorem op_cells : Tryz.prog.cellsOf 38 = 6 := by kernel_rfl
theorem op_one : oneCellFields Tryz.prog (Tryz.prog.fieldsOf 38) = true := by kernel_rfl
theorem op_und : Tryz.prog.underlying 38 = some (.struct (Tryz.prog.fieldsOf 38)) := by kernel_rfl
theorem op_fs : (Tryz.prog.fieldsOf 38).size = 6 := by kernel_rfl
theorem op_f0 : ((Tryz.prog.fieldsOf 38)[0]?).map (·.type) = some 3 := by kernel_rfl
theorem op_f1 : ((Tryz.prog.fieldsOf 38)[1]?).map (·.type) = some 36 := by kernel_rfl
theorem op_f2 : ((Tryz.prog.fieldsOf 38)[2]?).map (·.type) = some 3 := by kernel_rfl
theorem op_f3 : ((Tryz.prog.fieldsOf 38)[3]?).map (·.type) = some 5 := by kernel_rfl
theorem op_f4 : ((Tryz.prog.fieldsOf 38)[4]?).map (·.type) = some 4 := by kernel_rfl
theorem op_f5 : ((Tryz.prog.fieldsOf 38)[5]?).map (·.type) = some 3 := by kernel_rfl

section
variable {H : Type} {enc : TypeId × Value → H} {w : World} {base : Nat} {spare : Nat → Bool} {held : Bool}
set_option maxRecDepth 100000 in
theorem open_op {b0 : Nat} {v : Value} {d : DataW H} {p : List MemPlace} (hv : Value.okWide Tryz.prog w .any b0 38 v) (h : DataW.Trod enc Tryz.prog w base spare held 38 v d p) :
    ∃ r : Op, r.Ok ∧ v = r.val := by
  obtain ⟨c0, c1, c2, c3, c4, c5, y0, y1, y2, y3, y4, y5, n, rfl, e0, e1, e2, e3, e4, e5⟩ := open_agg6 Tryz.underlying38 (by kernel_rfl) op_cells hv h
  obtain ⟨x0, h0, _, w0⟩ := DataW.trod_int Tryz.underlying3 e0
  obtain ⟨x1, h1, _, w1⟩ := DataW.trod_int Tryz.underlying36 e1
  obtain ⟨x2, h2, _, w2⟩ := DataW.trod_int Tryz.underlying3 e2
  obtain ⟨x3, h3, _, w3⟩ := DataW.trod_int Tryz.underlying5 e3
  obtain ⟨x4, h4, _⟩ := DataW.trod_bool Tryz.underlying4 e4
  obtain ⟨x5, h5, _, w5⟩ := DataW.trod_int Tryz.underlying3 e5
  simp at h0 h1 h2 h3 h4 h5
  subst h0 h1 h2 h3 h4 h5
  exact ⟨⟨x0, x1, x2, x3, x4, x5⟩, op_ok w0 w1 w2 w3 w5, rfl⟩
theorem field_int {n fuel : Nat} {j : Nat} {k : IntKind} {t : TypeId} {fs : Array Field} (hf : (fs[j]?).map (·.type) = some t) (ht : Tryz.prog.underlying t = some (.int k)) {a : Addr} {ys : List (DataW H × List MemPlace)}
    (h : ∀ (j : Nat) (f : Field), fs[j]? = some f → ∃ (v : Value) (y : DataW H × List MemPlace), w.cell? (a.add (n + j)) = some v ∧ ys[j]? = some y ∧ DataW.trod enc Tryz.prog w base spare held fuel f.type [v] = some y) :
    ∃ x : Int, w.cell? (a.add (n + j)) = some (.int k x) ∧ (Lit.int k x).wf = true := by
  obtain ⟨f, hf1, hf2⟩ := Option.map_eq_some_iff.1 hf
  obtain ⟨v, y, hc, _, htr⟩ := h j f hf1
  rw [hf2] at htr
  obtain ⟨x, hx, _, hw⟩ := DataW.trod_int ht htr
  simp at hx
  subst hx
  exact ⟨x, hc, hw⟩

end

end Go.Proofs.YtkkmcnngpahfaaaGreatDoor

namespace Go.Proofs.YtkkmcnngpahfaaaGreatDoor
open Go.ChangeShapes Go.WideShapes Go.ChangeAt Go.RowKit Go.Deep Go.Joins
set_option linter.unusedSimpArgs false
set_option linter.unusedVariables false

structure OpAt (w : World) (b o : Nat) (x : Op) : Prop where
  c0 : w.cell? ⟨b, o, none⟩ = some (.int .i64 x.kind)
  c1 : w.cell? ⟨b, o + 1, none⟩ = some (.int .u64 x.addr)
  c2 : w.cell? ⟨b, o + 2, none⟩ = some (.int .i64 x.frame)
  c3 : w.cell? ⟨b, o + 3, none⟩ = some (.int .u8 x.prot)
  c4 : w.cell? ⟨b, o + 4, none⟩ = some (.bool x.copy)
  c5 : w.cell? ⟨b, o + 5, none⟩ = some (.int .i64 x.n)
theorem OpAt.below {w w' : World} {B b o : Nat} {x : Op} (h : OpAt w b o x) (hb : Below B w w') (hB : b < B) : OpAt w' b o x :=
  ⟨(hb.cell (p := ⟨b, o, none⟩) hB).trans h.c0, (hb.cell (p := ⟨b, o + 1, none⟩) hB).trans h.c1, (hb.cell (p := ⟨b, o + 2, none⟩) hB).trans h.c2, (hb.cell (p := ⟨b, o + 3, none⟩) hB).trans h.c3, (hb.cell (p := ⟨b, o + 4, none⟩) hB).trans h.c4, (hb.cell (p := ⟨b, o + 5, none⟩) hB).trans h.c5⟩
/-- A slice that reads as a list of ops, below block B. -/
structure OSl (w : World) (B : Nat) (A : Option Addr) (n cap : Nat) (l : List Op) : Prop where
  len : l.length = n
  cap : n ≤ cap
  few : n ≤ 1000000
  at_ : ∀ k x, l[k]? = some x → ∃ b off, A = some ⟨b, off, none⟩ ∧ b < B ∧ OpAt w b (off + k * 6) x
  ok : ∀ x ∈ l, x.Ok
theorem OSl.below {w w' : World} {B B' : Nat} {A : Option Addr} {n cap : Nat} {l : List Op} (h : OSl w B A n cap l) (hb : Below B' w w') (hB : B ≤ B') : OSl w' B A n cap l :=
  ⟨h.len, h.cap, h.few, fun k r hr => by
    obtain ⟨b, off, e, hlt, hra⟩ := h.at_ k r hr
    exact ⟨b, off, e, hlt, hra.below hb (by omega)⟩, h.ok⟩
theorem OSl.more {w : World} {B B' : Nat} {A : Option Addr} {n cap : Nat} {l : List Op} (h : OSl w B A n cap l) (hB : B ≤ B') : OSl w B' A n cap l :=
  ⟨h.len, h.cap, h.few, fun k r hr => by
    obtain ⟨b, off, e, hlt, hra⟩ := h.at_ k r hr
    exact ⟨b, off, e, by omega, hra⟩, h.ok⟩
theorem list_of {α : Type} {P : Nat → α → Prop} : ∀ n : Nat, (∀ i, i < n → ∃ r, P i r) → ∃ l : List α, l.length = n ∧ ∀ k r, l[k]? = some r → P k r
  | 0, _ => ⟨[], rfl, fun k r h => by simp at h⟩
  | n + 1, h => by
    obtain ⟨l, hl, hp⟩ := list_of n (fun i hi => h i (by omega))
    obtain ⟨r, hr⟩ := h n (by omega)
    refine ⟨l ++ [r], by simp [hl], fun k x hx => ?_⟩
    by_cases hk : k < l.length
    · rw [List.getElem?_append_left hk] at hx
      exact hp k x hx
    · rw [List.getElem?_append_right (by omega)] at hx
      have h0 : k - l.length = 0 := by
        have := (List.getElem?_eq_some_iff.1 hx).1
        simp at this
        omega
      rw [h0] at hx
      simp at hx
      subst hx
      have : k = n := by omega
      rw [this]
      exact hr
def ArgO (w : World) (a : Option Addr) (len cap : Nat) : Prop := len ≤ 9223372036854775807 ∧ (len ≤ 300 → ∃ l : List Op, OSl w w.heap.size a len cap l)

section
variable {H : Type} {enc : TypeId × Value → H} {w : World} {base : Nat} {spare : Nat → Bool} {held : Bool}
theorem field_bool {n fuel : Nat} {j : Nat} {t : TypeId} {fs : Array Field} (hf : (fs[j]?).map (·.type) = some t) (ht : Tryz.prog.underlying t = some .bool) {a : Addr} {ys : List (DataW H × List MemPlace)}
    (h : ∀ (j : Nat) (f : Field), fs[j]? = some f → ∃ (v : Value) (y : DataW H × List MemPlace), w.cell? (a.add (n + j)) = some v ∧ ys[j]? = some y ∧ DataW.trod enc Tryz.prog w base spare held fuel f.type [v] = some y) :
    ∃ x : Bool, w.cell? (a.add (n + j)) = some (.bool x) := by
  obtain ⟨f, hf1, hf2⟩ := Option.map_eq_some_iff.1 hf
  obtain ⟨v, y, hc, _, htr⟩ := h j f hf1
  rw [hf2] at htr
  obtain ⟨x, hx, _⟩ := DataW.trod_bool ht htr
  simp at hx
  subst hx
  exact ⟨x, hc⟩
set_option maxRecDepth 100000 in
theorem open_ops {a : Option Addr} {len cap : Nat} {d : DataW H} {p : List MemPlace} (h : DataW.Trod enc Tryz.prog w base spare held 22 (.slice a len cap) d p) : ArgO w a len cap := by
  obtain ⟨fuel, hf⟩ := h
  rcases open_slice_fields Tryz.underlying22 op_und op_one (by rw [op_cells, op_fs]) hf with ⟨hcs, _⟩ | ⟨x, l, c, m, D, Pl, hcs, _, hl, hm, hmm, _, hi⟩
  · simp [Value.cells] at hcs
    obtain ⟨rfl, rfl, rfl⟩ := hcs
    exact ⟨by omega, fun _ => ⟨[], rfl, Nat.le_refl _, by omega, fun k r h => by simp at h, fun r h => by simp at h⟩⟩
  · simp [Value.cells] at hcs
    obtain ⟨rfl, rfl, rfl⟩ := hcs
    have hlm : len ≤ m := by rw [hmm]; split <;> omega
    refine ⟨by unfold maxLen at hm; omega, fun h300 => ?_⟩
    rcases Nat.eq_zero_or_pos len with rfl | hpos
    · exact ⟨[], rfl, hl, by omega, fun k r h => by simp at h, fun r h => by simp at h⟩
    have hsp : x.spot = none := by
      obtain ⟨ys, n, _, _, _, hfl⟩ := hi 0 (by omega)
      rw [op_fs] at hfl
      obtain ⟨x0, c0, w0⟩ := field_int op_f0 Tryz.underlying3 hfl
      have h1 := World.cell?_spot c0
      simpa [Addr.add] using h1
    have key : ∀ i, i < len → ∃ r : Op, r.Ok ∧ ∃ b off, x = ⟨b, off, none⟩ ∧ b < w.heap.size ∧ OpAt w b (off + i * 6) r := by
      intro i hil
      obtain ⟨ys, n, _, _, _, hfl⟩ := hi i (by omega)
      rw [op_fs] at hfl
      obtain ⟨x0, c0, w0⟩ := field_int op_f0 Tryz.underlying3 hfl
      obtain ⟨x1, c1, w1⟩ := field_int op_f1 Tryz.underlying36 hfl
      obtain ⟨x2, c2, w2⟩ := field_int op_f2 Tryz.underlying3 hfl
      obtain ⟨x3, c3, w3⟩ := field_int op_f3 Tryz.underlying5 hfl
      obtain ⟨x4, c4⟩ := field_bool op_f4 Tryz.underlying4 hfl
      obtain ⟨x5, c5, w5⟩ := field_int op_f5 Tryz.underlying3 hfl
      obtain ⟨b, off, sp⟩ := x
      obtain rfl : sp = none := hsp
      have e : ∀ j, (⟨b, off, none⟩ : Addr).add (i * 6 + j) = ⟨b, off + i * 6 + j, none⟩ := fun j => by
        unfold Addr.add
        split
        · have : i * 6 = 0 ∧ j = 0 := by omega
          simp [this.1, this.2]
        · show (⟨b, off + (i * 6 + j), none⟩ : Addr) = _
          rw [Nat.add_assoc]
      rw [e] at c0 c1 c2 c3 c4 c5
      exact ⟨⟨x0, x1, x2, x3, x4, x5⟩, op_ok w0 w1 w2 w3 w5, b, off, rfl, World.block_lt_of_cell? w _ c0, ⟨c0, c1, c2, c3, c4, c5⟩⟩
    obtain ⟨lst, hlen, hall⟩ := list_of (P := fun i r => Op.Ok r ∧ ∃ b off, x = ⟨b, off, none⟩ ∧ b < w.heap.size ∧ OpAt w b (off + i * 6) r) len key
    refine ⟨lst, hlen, hl, by omega, fun k r hr => ?_, fun r hr => ?_⟩
    · obtain ⟨_, b, off, hx, hb, hra⟩ := hall k r hr
      exact ⟨b, off, by rw [hx], hb, hra⟩
    · obtain ⟨k, hk, e⟩ := List.mem_iff_getElem.1 hr
      exact (hall k r (by rw [List.getElem?_eq_getElem hk, e])).1
end

end Go.Proofs.YtkkmcnngpahfaaaGreatDoor
