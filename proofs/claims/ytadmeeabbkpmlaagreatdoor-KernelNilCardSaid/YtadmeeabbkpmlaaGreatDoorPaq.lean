/- The row of steps that comes in, opened. -/
import Derived.Test.YtadmeeabbkpmlaaGreatDoorKnB
import Derived.Test.YtadmeeabbkpmlaaGreatDoorCards
import Derived.Test.YtadmeeabbkpmlaaGreatDoorTie
import Derived.ProofKit
import Derived.OpenShut
import Derived.ChangeOld
import Derived.ChangeSame
import Derived.ChangeMaps5
import Derived.Deep.Slices
import Derived.Deep.Fields
import Derived.SliceStrings
import Derived.HandedShaped
import Derived.Lib.SmallJoins
set_option linter.unusedSimpArgs false
set_option linter.unusedVariables false
namespace Go.Proofs.YtadmeeabbkpmlaaGreatDoor
open Go.ChangeShapes Go.WideShapes Go.ChangeAt Go.RowKit Go.Joins Go.ChangeMaps Go.Deep
set_option linter.unusedVariables false
set_option linter.unusedSimpArgs false
set_option maxRecDepth 100000
theorem add_at {b o i : Nat} : (⟨b, o, none⟩ : Addr).add i = ⟨b, o + i, none⟩ := by
  unfold Addr.add
  split
  · next h => subst h; rfl
  · rfl
section
variable {H : Type} {enc : TypeId × Value → H} {w : World} {base : Nat} {spare : Nat → Bool} {held : Bool} {n : Nat} {t e : TypeId} {v : Value} {x : DataW H × List MemPlace}
/-- A value of a slice's type. -/
theorem one_slice (ht : Tryz.prog.underlying t = some (.slice e)) (h : DataW.trod enc Tryz.prog w base spare held n t [v] = some x) : ∃ A l c, v = .slice A l c := by
  rcases DataW.trod_slice ht h with ⟨h1, _⟩ | ⟨a, l, c, _, _, _, _, h1, _⟩
  · simp at h1; exact ⟨_, _, _, h1⟩
  · simp at h1; exact ⟨_, _, _, h1⟩
theorem one_int {k : IntKind} (ht : Tryz.prog.underlying t = some (.int k)) (h : DataW.trod enc Tryz.prog w base spare held n t [v] = some x) : ∃ i, v = .int k i := by
  obtain ⟨i, h1, _⟩ := DataW.trod_int ht h
  simp at h1
  exact ⟨i, h1⟩
theorem one_text (ht : Tryz.prog.underlying t = some .string) (h : DataW.trod enc Tryz.prog w base spare held n t [v] = some x) : ∃ s, v = .string s := by
  obtain ⟨i, h1, _⟩ := DataW.trod_string ht h
  simp at h1
  exact ⟨i, h1⟩
/-- A field of one cell. -/
theorem field_one {fs : Array Field} {cs : List Value} {ys : List (DataW H × List MemPlace)} (h : ∀ (i : Nat) (f : Field), fs[i]? = some f → DataW.trod enc Tryz.prog w base spare held n f.type ((cs.drop f.offset).take (Tryz.prog.cellsOf f.type)) = ys[i]?) (hl : ys.length = fs.size)
    {j o : Nat} (hj : (fs[j]?).map (fun f => (f.type, f.offset)) = some (t, o)) (hc : Tryz.prog.cellsOf t = 1) (ho : cs[o]? = some v) : ∃ y, DataW.trod enc Tryz.prog w base spare held n t [v] = some y := by
  obtain ⟨f, hf1, hf2⟩ := Option.map_eq_some_iff.1 hj
  simp only [Prod.mk.injEq] at hf2
  obtain ⟨rfl, rfl⟩ := hf2
  have h1 := h j f hf1
  rw [hc] at h1
  have hlt := (List.getElem?_eq_some_iff.1 ho).1
  have hone : (cs.drop f.offset).take 1 = [v] := by
    rw [List.drop_eq_getElem_cons hlt, (List.getElem?_eq_some_iff.1 ho).2]
    rfl
  rw [hone] at h1
  have hjl : j < ys.length := by rw [hl]; exact (Array.getElem?_eq_some_iff.1 hf1).1
  exact ⟨_, h1.trans (List.getElem?_eq_getElem hjl)⟩
theorem step_und : Tryz.prog.underlying 37 = some (.struct (Tryz.prog.fieldsOf 37)) := by kernel_rfl
theorem call_und : Tryz.prog.underlying 35 = some (.struct (Tryz.prog.fieldsOf 35)) := by kernel_rfl
theorem step_cells : Tryz.prog.cellsOf 37 = 11 := by kernel_rfl
theorem call_cells : Tryz.prog.cellsOf 35 = 10 := by kernel_rfl
theorem step_f0 : ((Tryz.prog.fieldsOf 37)[0]?).map (fun f => (f.type, f.offset)) = some (3, 0) := by kernel_rfl
theorem step_f1 : ((Tryz.prog.fieldsOf 37)[1]?).map (fun f => (f.type, f.offset)) = some (35, 1) := by kernel_rfl
theorem call_f0 : ((Tryz.prog.fieldsOf 35)[0]?).map (fun f => (f.type, f.offset)) = some (5, 0) := by kernel_rfl
theorem call_f1 : ((Tryz.prog.fieldsOf 35)[1]?).map (fun f => (f.type, f.offset)) = some (23, 1) := by kernel_rfl
theorem call_f2 : ((Tryz.prog.fieldsOf 35)[2]?).map (fun f => (f.type, f.offset)) = some (23, 2) := by kernel_rfl
theorem call_f3 : ((Tryz.prog.fieldsOf 35)[3]?).map (fun f => (f.type, f.offset)) = some (23, 3) := by kernel_rfl
theorem call_f4 : ((Tryz.prog.fieldsOf 35)[4]?).map (fun f => (f.type, f.offset)) = some (23, 4) := by kernel_rfl
theorem call_f5 : ((Tryz.prog.fieldsOf 35)[5]?).map (fun f => (f.type, f.offset)) = some (23, 5) := by kernel_rfl
theorem call_f6 : ((Tryz.prog.fieldsOf 35)[6]?).map (fun f => (f.type, f.offset)) = some (9, 6) := by kernel_rfl
theorem call_f7 : ((Tryz.prog.fieldsOf 35)[7]?).map (fun f => (f.type, f.offset)) = some (33, 7) := by kernel_rfl
theorem call_f8 : ((Tryz.prog.fieldsOf 35)[8]?).map (fun f => (f.type, f.offset)) = some (33, 8) := by kernel_rfl
theorem call_f9 : ((Tryz.prog.fieldsOf 35)[9]?).map (fun f => (f.type, f.offset)) = some (29, 9) := by kernel_rfl
theorem c3 : Tryz.prog.cellsOf 3 = 1 := by kernel_rfl
theorem c5 : Tryz.prog.cellsOf 5 = 1 := by kernel_rfl
theorem c9 : Tryz.prog.cellsOf 9 = 1 := by kernel_rfl
theorem c23 : Tryz.prog.cellsOf 23 = 1 := by kernel_rfl
theorem c29 : Tryz.prog.cellsOf 29 = 1 := by kernel_rfl
theorem c33 : Tryz.prog.cellsOf 33 = 1 := by kernel_rfl
/-- A step's cells. -/
theorem step_open {fuel : Nat} {cs : List Value} (h : DataW.trod enc Tryz.prog w base spare held fuel 37 cs = some x) :
    ∃ (pid : Int) (a : Ask), cs = [.int .i64 pid, .int .u8 a.kind, .int .u64 a.a, .int .u64 a.b, .int .u64 a.c, .int .u64 a.d, .int .u64 a.e, .string a.path, .slice a.A a.al a.ac, .slice a.E a.el a.ec, .slice a.B a.bl a.bc] := by
  obtain ⟨ys, k, _, _, hlen, hyl, hf⟩ := DataW.trod_struct step_und h
  rw [step_cells] at hlen
  match cs, hlen with
  | [v0, v1, v2, v3, v4, v5, v6, v7, v8, v9, v10], _ =>
    obtain ⟨_, e0⟩ := field_one hf hyl step_f0 c3 (v := v0) rfl
    obtain ⟨pid, rfl⟩ := one_int Tryz.underlying3 e0
    obtain ⟨f1, g1, g2⟩ := Option.map_eq_some_iff.1 step_f1
    simp only [Prod.mk.injEq] at g2
    have h1 := hf 1 f1 g1
    rw [g2.1, g2.2, call_cells] at h1
    have h1' : DataW.trod enc Tryz.prog w base spare held k 35 [v1, v2, v3, v4, v5, v6, v7, v8, v9, v10] = ys[1]? := h1
    have hy1 : 1 < ys.length := by rw [hyl]; exact (Array.getElem?_eq_some_iff.1 g1).1
    rw [List.getElem?_eq_getElem hy1] at h1'
    obtain ⟨zs, k2, _, _, _, hzl, hg⟩ := DataW.trod_struct call_und h1'
    obtain ⟨_, e1⟩ := field_one hg hzl call_f0 c5 (v := v1) rfl
    obtain ⟨x1, rfl⟩ := one_int Tryz.underlying5 e1
    obtain ⟨_, e2⟩ := field_one hg hzl call_f1 c23 (v := v2) rfl
    obtain ⟨x2, rfl⟩ := one_int Tryz.underlying23 e2
    obtain ⟨_, e3⟩ := field_one hg hzl call_f2 c23 (v := v3) rfl
    obtain ⟨x3, rfl⟩ := one_int Tryz.underlying23 e3
    obtain ⟨_, e4⟩ := field_one hg hzl call_f3 c23 (v := v4) rfl
    obtain ⟨x4, rfl⟩ := one_int Tryz.underlying23 e4
    obtain ⟨_, e5⟩ := field_one hg hzl call_f4 c23 (v := v5) rfl
    obtain ⟨x5, rfl⟩ := one_int Tryz.underlying23 e5
    obtain ⟨_, e6⟩ := field_one hg hzl call_f5 c23 (v := v6) rfl
    obtain ⟨x6, rfl⟩ := one_int Tryz.underlying23 e6
    obtain ⟨_, e7⟩ := field_one hg hzl call_f6 c9 (v := v7) rfl
    obtain ⟨x7, rfl⟩ := one_text Tryz.underlying9 e7
    obtain ⟨_, e8⟩ := field_one hg hzl call_f7 c33 (v := v8) rfl
    obtain ⟨A, al, ac, rfl⟩ := one_slice Tryz.underlying33 e8
    obtain ⟨_, e9⟩ := field_one hg hzl call_f8 c33 (v := v9) rfl
    obtain ⟨E, el, ec, rfl⟩ := one_slice Tryz.underlying33 e9
    obtain ⟨_, e10⟩ := field_one hg hzl call_f9 c29 (v := v10) rfl
    obtain ⟨B, bl, bc, rfl⟩ := one_slice Tryz.underlying29 e10
    exact ⟨pid, ⟨x1, x2, x3, x4, x5, x6, x7, A, al, ac, E, el, ec, B, bl, bc⟩, rfl⟩
/-- What a row of the door is: none, or one that lies in a block as a whole. -/
theorem row_slice {t e : TypeId} {r : Reach} {b0 : Nat} {v : Value} (ht : Tryz.prog.underlying t = some (.slice e)) (h : Cell.okWide Tryz.prog w r b0 t v) : ∃ a l c, v = .slice a l c ∧ l ≤ 9223372036854775807 ∧ ((a = none ∧ l = 0) ∨ ∃ b o, a = some ⟨b, o, none⟩) := by
  cases v <;> simp [Cell.okWide, Cell.ok, ht] at h
  rename_i a l c
  cases a with
  | none =>
    cases l with
    | zero => exact ⟨_, _, _, rfl, by omega, .inl ⟨rfl, rfl⟩⟩
    | succ n => simp at h
  | some a =>
    obtain ⟨h1, h2, _, h3, _⟩ := h
    obtain ⟨b, o, sp⟩ := a
    obtain rfl : sp = none := h3
    refine ⟨_, _, _, rfl, ?_, .inr ⟨_, _, rfl⟩⟩
    have : (c : Int) ≤ 9223372036854775807 := h2
    omega
theorem steps_at {fuel : Nat} {a : Option Addr} {l c : Nat} (hf : DataW.trod enc Tryz.prog w base spare held fuel 22 [.slice a l c] = some x) (hr : (a = none ∧ l = 0) ∨ ∃ b o, a = some ⟨b, o, none⟩) : StepsAt w a l := by
  rcases open_slice Tryz.underlying22 hf with ⟨hcs, _⟩ | ⟨y, len, cap, m, n, D, Pl, hcs, _, hl, hm, hmm, _, hi⟩
  · simp at hcs
    obtain ⟨rfl, rfl, rfl⟩ := hcs
    exact fun k hk => by omega
  · simp at hcs
    obtain ⟨rfl, rfl, rfl⟩ := hcs
    rcases hr with ⟨hr, _⟩ | ⟨b, o, hr⟩
    · cases hr
    · cases hr
      intro k hk
      have hlm : l ≤ m := by rw [hmm]; split <;> omega
      obtain ⟨cs, hc, htr⟩ := hi k (by omega)
      obtain ⟨pid, ak, rfl⟩ := step_open htr
      rw [step_cells] at hc
      obtain ⟨_, _, hat⟩ := World.cells?_some hc
      have h0 : ∀ i, i < 11 → w.cell? ⟨b, o + k * 11 + i, none⟩ = [Value.int .i64 pid, .int .u8 ak.kind, .int .u64 ak.a, .int .u64 ak.b, .int .u64 ak.c, .int .u64 ak.d, .int .u64 ak.e, .string ak.path, .slice ak.A ak.al ak.ac, .slice ak.E ak.el ak.ec, .slice ak.B ak.bl ak.bc][i]? := fun i hi => by
        have := hat i hi
        rwa [add_at, add_at] at this
      have s0 := h0 0 (by omega)
      exact ⟨b, o, pid, ak, rfl, World.block_lt_of_cell? _ _ s0, s0, h0 1 (by omega), h0 2 (by omega), h0 3 (by omega), h0 4 (by omega), h0 5 (by omega), h0 6 (by omega), h0 7 (by omega), h0 8 (by omega), h0 9 (by omega), h0 10 (by omega)⟩
end
end Go.Proofs.YtadmeeabbkpmlaaGreatDoor
