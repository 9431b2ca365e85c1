/- Entries: append of no bytes; rows of entries; bytes that stay. -/
import Derived.Test.YtkkmcnngpahfaaaGreatDoorVqA

namespace Go.Proofs.YtkkmcnngpahfaaaGreatDoor
open Go.RowKit Go.Sort
set_option linter.unusedSimpArgs false
set_option linter.unusedVariables false

/-- append of no bytes. -/
theorem app_zero {w : World} {ops : Array Oper} {rest : List Oper} {o : Oper} {a : Act} {Q : Exit → Act → World → Prop} (hgd : o.guard = none) (s x : Operand)
    (ho : o.op = .call { callee := .builtin .append, args := #[s, x], argTypes := #[99, 99] })
    (A : Option Addr) (m cap : Nat) (hm : m = 0) (hs : a.eval s = .slice A 0 cap) (B : Option Addr) (c : Nat) (hx : a.eval x = .slice B m c)
    (h : wpList Tryz.prog ops Q rest (a.put o.dst (.slice A m cap)) w) : wpList Tryz.prog ops Q (o :: rest) a w := by
  subst hm
  obtain ⟨i0, hi0, hz0, hz1, hz2⟩ := info_parts u8_info
  refine wpList_plain hgd fun K hK => ?_
  have hsrc : Src Tryz.prog i0.size 99 (.slice B 0 c) 0 [] w := by
    cases B with
    | none => exact Src.ofNil w Tryz.underlying99 c
    | some ad => exact Src.ofSlice w Tryz.underlying99 ad 0 c [] (by simp) (fun j u hu => by simp at hu) (fun u hu => by cases hu)
  have hrun := run_append_nothing (P := Tryz.prog) w 99 99 o.type 5 i0 Tryz.underlying99 hi0 A 0 cap (Nat.zero_le _) (.slice B 0 c) hsrc
  unfold Oper.wp
  simp [execOp, ho, resolve, invoke, builtin, hs, hx, hrun, Result.andThen]
  exact hK _ _ h

structure EntR where
  ent : Ent
  A : Option Addr
  c : Nat
def entC (x : EntR) : List Value := [.string x.ent.path, .int .u8 (x.ent.kind : Int), .int .u16 (x.ent.mode : Int), .int .u32 (x.ent.uid : Int), .int .u32 (x.ent.gid : Int), .slice x.A x.ent.n x.c, .string x.ent.to]
def OwnE (w : World) (base : Nat) (R : Option Addr) (cap : Nat) (L : List EntR) : Prop := w.ownsRow base 106 7 (.slice R L.length cap) L.length (L.flatMap entC)
theorem ent_info : (Tryz.prog.info? 106).map (fun i => (i.zero, i.size, i.bytes)) = some (some (.agg #[.string ByteArray.empty, .int .u8 0, .int .u16 0, .int .u32 0, .int .u32 0, .slice none 0 0, .string ByteArray.empty]), 7, 72) := by kernel_rfl
theorem app_ent {w : World} {ops : Array Oper} {rest : List Oper} {o : Oper} {a : Act} {Q : Exit → Act → World → Prop} (hgd : o.guard = none) (s x : Operand)
    (ho : o.op = .call { callee := .builtin .append, args := #[s, x], argTypes := #[40, 40] })
    (base : Nat) (R : Option Addr) (cap m : Nat) (L : List EntR) (hm : m = L.length) (hs : a.eval s = .slice R m cap) (hown : OwnE w base R cap L)
    (r : EntR) (b c : Nat) (hx : a.eval x = .slice (some ⟨b, 0, none⟩) 1 c) (hb : w.heap[b]? = some (.cells (entC r).toArray 106 (0, 0)))
    (hfew : m < 1000000) (hbase : base ≤ w.heap.size)
    (h : ∀ g cap' w', OwnE w' base (some ⟨g, 0, none⟩) cap' (L ++ [r]) → w.grownBy w' (R.map (·.block)) → (R.map (·.block) = some g ∨ g = w.heap.size) → g < w'.heap.size → wpList Tryz.prog ops Q rest (a.put o.dst (.slice (some ⟨g, 0, none⟩) (m + 1) cap')) w') :
    wpList Tryz.prog ops Q (o :: rest) a w := by
  obtain ⟨i0, hi0, hz0, hz1, hz2⟩ := info_parts ent_info
  refine wpList_append_lies w hgd s x 40 ho base 106 i0 _ 7 72 Tryz.underlying40 hi0 hz0 hz1 hz2 rfl (by omega) _ L.length (L.flatMap entC) (by rw [hs, hm]) hown ⟨b, 0, none⟩ 1 c (entC r) hx rfl (World.news_of_block (cs := (entC r).toArray) hb)
    (by simp [entC, Value.oneCell']) (by omega) (by unfold maxLen; omega) (by omega) hbase w.heap.size rfl ?_
  intro g cap' w' ho' hg hat hlt
  rw [← hm] at ho' ⊢
  refine h g cap' w' ?_ ?_ ?_ hlt
  · unfold OwnE
    rw [List.flatMap_append, List.length_append, List.length_singleton, ← hm]
    simpa using ho'
  · cases R <;> simpa [Value.ownBlock] using hg
  · cases R <;> simpa [Value.ownBlock] using hat
theorem entC_len (L : List EntR) : (L.flatMap entC).length = L.length * 7 := by
  induction L with
  | nil => rfl
  | cons x L ih => rw [List.flatMap_cons, List.length_append, ih, List.length_cons]; simp [entC]; omega
theorem entC_get {L : List EntR} {k : Nat} {r : EntR} (h : L[k]? = some r) (j : Nat) (hj : j < 7) : (L.flatMap entC)[k * 7 + j]? = (entC r)[j]? := by
  induction L generalizing k with
  | nil => simp at h
  | cons x L ih =>
    rw [List.flatMap_cons]
    cases k with
    | zero =>
      simp at h
      subst h
      rw [Nat.zero_mul, Nat.zero_add, List.getElem?_append_left (by simp [entC]; omega)]
    | succ k =>
      simp at h
      rw [List.getElem?_append_right (by simp [entC]; omega)]
      have e : (k + 1) * 7 + j - (entC x).length = k * 7 + j := by simp [entC]; omega
      rw [e]
      exact ih h
theorem OwnE.cell {w : World} {base g cap : Nat} {L : List EntR} (h : OwnE w base (some ⟨g, 0, none⟩) cap L) {k : Nat} {r : EntR} (hr : L[k]? = some r) (j : Nat) (hj : j < 7) : w.cell? ⟨g, k * 7 + j, none⟩ = (entC r)[j]? := by
  have hk : k < L.length := (List.getElem?_eq_some_iff.1 hr).1
  rw [World.ownsRow.cellAt h (k * 7 + j) (by omega), entC_get hr j hj]

/-- Each entry's bytes lie in memory of their own. -/
def TwOk (w : World) (r : EntR) : Prop := ByteRow w r.A r.ent.n r.c r.ent.dat
theorem ByteRow.keep {w w' : World} {A : Option Addr} {n cap : Nat} {d : Nat → Nat} (h : ByteRow w A n cap d) (hk : ∀ (g : Nat) (cs : Array Value) (f : Nat × Nat), w.heap[g]? = some (.cells cs 5 f) → w'.heap[g]? = w.heap[g]?) : ByteRow w' A n cap d := by
  obtain ⟨h1, h2, h3⟩ := h
  refine ⟨fun h0 => ?_, fun x hx => ?_, h3⟩
  · obtain ⟨x, hx, hc⟩ := h1 h0
    obtain ⟨g, cs, f, rfl, hg⟩ := h2 x hx
    refine ⟨_, hx, fun j hj => ?_⟩
    have h9 := hc j hj
    rw [Addr.add_mid, Nat.zero_add] at h9 ⊢
    rw [← h9]
    exact World.cell?_of_block (hk g cs f hg)
  · obtain ⟨g, cs, f, e, hg⟩ := h2 x hx
    exact ⟨g, cs, f, e, (hk g cs f hg).trans hg⟩
theorem OwnE.block {w : World} {base g cap : Nat} {L : List EntR} (h : OwnE w base (some ⟨g, 0, none⟩) cap L) : ∃ cur, w.heap[g]? = some (.cells cur 106 (0, 0)) ∧ base ≤ g ∧ L.length ≤ cap := by
  rcases h.2 with ⟨h2, _⟩ | ⟨g', cap', cur, h1, h3, h4, h5, _⟩
  · injection h2 with h2; cases h2
  · injection h1 with e1 _ e3
    injection e1 with e1
    injection e1 with e1
    subst e1
    exact ⟨cur, h4, h3, by omega⟩
theorem OwnE.form {w : World} {base cap : Nat} {R : Option Addr} {L : List EntR} (h : OwnE w base R cap L) : (R = none ∧ L = [] ∧ cap = 0) ∨ ∃ g, R = some ⟨g, 0, none⟩ ∧ base ≤ g ∧ g < w.heap.size ∧ L.length ≤ cap := by
  rcases h.2 with ⟨h2, h3⟩ | ⟨g, cap', cur, h1, h2, h3, h4, _⟩
  · injection h2 with e1 e2 e3
    exact .inl ⟨e1, by simpa using h3, e3⟩
  · injection h1 with e1 e2 e3
    exact .inr ⟨g, e1, h2, (Array.getElem?_eq_some_iff.1 h3).1, by omega⟩
theorem OwnE.same {w w' : World} {base cap : Nat} {R : Option Addr} {L : List EntR} (h : OwnE w base R cap L) (hb : ∀ g, R = some ⟨g, 0, none⟩ → w'.heap[g]? = w.heap[g]?) : OwnE w' base R cap L := by
  refine ⟨h.1, ?_⟩
  rcases h.2 with h2 | ⟨g, cap', cur, h1, h2, h3, h4⟩
  · exact .inl h2
  · injection h1 with e1 e2 e3
    exact .inr ⟨g, cap', cur, by rw [e1, e2, e3], h2, (hb g e1).trans h3, h4⟩
theorem OwnE.kept {w w' : World} {base cap : Nat} {R : Option Addr} {L : List EntR} (h : OwnE w base R cap L) (hb : Below w.heap.size w w') : OwnE w' base R cap L := h.same fun g hg => by
  rcases h.form with ⟨e, _⟩ | ⟨g', e, _, h2, _⟩
  · rw [e] at hg; cases hg
  · rw [e] at hg; injection hg with hg; injection hg with hg; subst hg; exact hb.block _ h2

end Go.Proofs.YtkkmcnngpahfaaaGreatDoor
