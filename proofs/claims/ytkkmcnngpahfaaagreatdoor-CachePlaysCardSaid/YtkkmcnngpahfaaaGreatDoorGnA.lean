/- Rows of elements of several cells, of whatever type: append, of one or of many; where they lie. -/
import Derived.Test.YtkkmcnngpahfaaaGreatDoorTwA
import Derived.Deep.AppendLies
namespace Go.Proofs.YtkkmcnngpahfaaaGreatDoor
open Go.RowKit Go.Sort
set_option linter.unusedSimpArgs false
set_option linter.unusedVariables false

/-- An element's type: its slice, its cells, how they are spelled. -/
structure Elem {α : Type} (sT T : TypeId) (k bytes : Nat) (z : Value) (C : α → List Value) : Prop where
  und : Tryz.prog.underlying sT = some (.slice T)
  info : (Tryz.prog.info? T).map (fun i => (i.zero, i.size, i.bytes)) = some (some z, k, bytes)
  size : z.cells.size = k
  pos : 0 < k
  small : bytes ≤ 1000
  len : ∀ x, (C x).length = k
  one : ∀ x, ∀ v ∈ C x, v.oneCell' = true
def OwnG {α : Type} (T : TypeId) (k : Nat) (C : α → List Value) (w : World) (base : Nat) (R : Option Addr) (cap : Nat) (L : List α) : Prop := w.ownsRow base T k (.slice R L.length cap) L.length (L.flatMap C)
section
variable {α : Type} {sT T : TypeId} {k bytes : Nat} {z : Value} {C : α → List Value}
theorem Elem.flat (h : Elem sT T k bytes z C) (L : List α) : (L.flatMap C).length = L.length * k := by
  induction L with
  | nil => simp
  | cons x L ih => rw [List.flatMap_cons, List.length_append, ih, List.length_cons, h.len, Nat.add_mul]; omega
theorem Elem.get (h : Elem sT T k bytes z C) {L : List α} {i : Nat} {r : α} (hr : L[i]? = some r) (j : Nat) (hj : j < k) : (L.flatMap C)[i * k + j]? = (C r)[j]? := by
  induction L generalizing i with
  | nil => simp at hr
  | cons x L ih =>
    rw [List.flatMap_cons]
    cases i with
    | zero =>
      simp at hr
      subst hr
      rw [Nat.zero_mul, Nat.zero_add, List.getElem?_append_left (by rw [h.len]; exact hj)]
    | succ i =>
      simp at hr
      rw [List.getElem?_append_right (by rw [h.len, Nat.add_mul]; omega)]
      have e : (i + 1) * k + j - (C x).length = i * k + j := by rw [h.len, Nat.add_mul]; omega
      rw [e]
      exact ih hr
theorem OwnG.nil (w : World) (base : Nat) : OwnG T k C w base none 0 [] := World.ownsRow_nil w base _ k
theorem OwnG.form {w : World} {base cap : Nat} {R : Option Addr} {L : List α} (h : OwnG T k C w base R cap L) : (R = none ∧ L = [] ∧ cap = 0) ∨ ∃ g, R = some ⟨g, 0, none⟩ ∧ base ≤ g ∧ g < w.heap.size ∧ L.length ≤ cap := by
  rcases h.2 with ⟨h2, h3⟩ | ⟨g, cap', cur, h1, h2, h3, h4, _⟩
  · injection h2 with e1 e2 e3
    exact .inl ⟨e1, List.eq_nil_of_length_eq_zero h3, e3⟩
  · injection h1 with e1 e2 e3
    exact .inr ⟨g, e1, h2, (Array.getElem?_eq_some_iff.1 h3).1, by omega⟩
theorem OwnG.formS {w : World} {base g cap : Nat} {L : List α} (h : OwnG T k C w base (some ⟨g, 0, none⟩) cap L) : base ≤ g ∧ g < w.heap.size ∧ L.length ≤ cap := by
  rcases h.form with ⟨h1, _⟩ | ⟨g', h1, h2, h3, h4⟩
  · cases h1
  · injection h1 with h1
    injection h1 with h1
    subst h1
    exact ⟨h2, h3, h4⟩
theorem OwnG.same {w w' : World} {base cap : Nat} {R : Option Addr} {L : List α} (h : OwnG T k C w base R cap L) (hb : ∀ g, R = some ⟨g, 0, none⟩ → w'.heap[g]? = w.heap[g]?) : OwnG T k C w' base R cap L := by
  refine ⟨h.1, ?_⟩
  rcases h.2 with h2 | ⟨g, cap', cur, h1, h2, h3, h4⟩
  · exact .inl h2
  · injection h1 with e1 e2 e3
    exact .inr ⟨g, cap', cur, by rw [e1, e2, e3], h2, (hb g e1).trans h3, h4⟩
theorem OwnG.lt {w : World} {base cap : Nat} {R : Option Addr} {L : List α} (h : OwnG T k C w base R cap L) : ∀ g, R = some ⟨g, 0, none⟩ → base ≤ g ∧ g < w.heap.size := fun g e => by
  subst e
  exact ⟨h.formS.1, h.formS.2.1⟩
theorem OwnG.kept {w w' : World} {base cap : Nat} {R : Option Addr} {L : List α} (h : OwnG T k C w base R cap L) (hb : Below w.heap.size w w') : OwnG T k C w' base R cap L := h.same fun g hg => hb.block _ (h.lt g hg).2
theorem OwnG.alloc {w : World} {base cap : Nat} {R : Option Addr} {L : List α} (h : OwnG T k C w base R cap L) (o : Obj) : OwnG T k C (w.alloc o) base R cap L := World.ownsRow.alloc h o
theorem OwnG.lower {w : World} {base base' cap : Nat} {R : Option Addr} {L : List α} (h : OwnG T k C w base R cap L) (hb : base' ≤ base) : OwnG T k C w base' R cap L := by
  rcases h with ⟨h1, h2 | ⟨g, cap', cur, e1, e2, e3⟩⟩
  · exact ⟨h1, .inl h2⟩
  · exact ⟨h1, .inr ⟨g, cap', cur, e1, by omega, e3⟩⟩
theorem OwnG.cell (hE : Elem sT T k bytes z C) {w : World} {base g cap : Nat} {L : List α} (h : OwnG T k C w base (some ⟨g, 0, none⟩) cap L) {i : Nat} {r : α} (hr : L[i]? = some r) (j : Nat) (hj : j < k) : w.cell? ⟨g, i * k + j, none⟩ = (C r)[j]? := by
  have hk : i < L.length := (List.getElem?_eq_some_iff.1 hr).1
  have hlt : i * k + j < L.length * k := by
    have h1 : (i + 1) * k ≤ L.length * k := Nat.mul_le_mul_right k hk
    rw [Nat.add_mul] at h1
    omega
  rw [World.ownsRow.cellAt h (i * k + j) hlt, hE.get hr j hj]
theorem OwnG.free {w : World} {base g cap : Nat} {L : List α} (h : OwnG T k C w base (some ⟨g, 0, none⟩) cap L) (j : Nat) : w.frozen? ⟨g, j, none⟩ = false := World.ownsRow.frozenAt h j
/-- The cells of a part of a row, as append reads them. -/
theorem OwnG.part (hE : Elem sT T k bytes z C) {w : World} {base g cap : Nat} {L : List α} (h : OwnG T k C w base (some ⟨g, 0, none⟩) cap L) (a m : Nat) : ∀ j u, (((L.drop a).take m).flatMap C)[j]? = some u → w.cell? ((⟨g, a * k, none⟩ : Addr).add j) = some u := fun j u hu => by
  have hl := (List.getElem?_eq_some_iff.1 hu).1
  rw [hE.flat] at hl
  have hkp := hE.pos
  have hi : j / k < ((L.drop a).take m).length := Nat.div_lt_of_lt_mul (by rw [Nat.mul_comm]; exact hl)
  obtain ⟨r, hr⟩ : ∃ r, ((L.drop a).take m)[j / k]? = some r := ⟨_, List.getElem?_eq_getElem hi⟩
  have hjm : j % k < k := Nat.mod_lt _ hkp
  have e : j / k * k + j % k = j := by rw [Nat.mul_comm]; exact Nat.div_add_mod j k
  have h1 := hE.get hr (j % k) hjm
  rw [e, hu] at h1
  have hr2 : L[a + j / k]? = some r := by
    rw [List.getElem?_take] at hr
    split at hr
    · rw [List.getElem?_drop] at hr; exact hr
    · cases hr
  have h2 := h.cell hE hr2 (j % k) hjm
  rw [Addr.add_mid, ← h1.symm.symm] at *
  rw [show a * k + j = (a + j / k) * k + j % k by rw [Nat.add_mul]; omega, h2, ← h1]

/-- append of one element. -/
theorem app_gen (hE : Elem sT T k bytes z C) {w : World} {ops : Array Oper} {rest : List Oper} {o : Oper} {a : Act} {Q : Exit → Act → World → Prop} (hgd : o.guard = none) (s x : Operand)
    (ho : o.op = .call { callee := .builtin .append, args := #[s, x], argTypes := #[sT, sT] })
    (base : Nat) (R : Option Addr) (cap m : Nat) (L : List α) (hm : m = L.length) (hs : a.eval s = .slice R m cap) (hown : OwnG T k C w base R cap L)
    (r : α) (b c : Nat) (hx : a.eval x = .slice (some ⟨b, 0, none⟩) 1 c) (hb : w.heap[b]? = some (.cells (C r).toArray T (0, 0)))
    (hfew : m < 1000000) (hbase : base ≤ w.heap.size)
    (h : ∀ g cap' w', OwnG T k C w' base (some ⟨g, 0, none⟩) cap' (L ++ [r]) → w.grownBy w' (R.map (·.block)) → (R.map (·.block) = some g ∨ g = w.heap.size) → g < w'.heap.size → wpList Tryz.prog ops Q rest (a.put o.dst (.slice (some ⟨g, 0, none⟩) (m + 1) cap')) w') :
    wpList Tryz.prog ops Q (o :: rest) a w := by
  obtain ⟨i0, hi0, hz0, hz1, hz2⟩ := info_parts hE.info
  have hsm := hE.small
  refine wpList_append_lies w hgd s x sT ho base T i0 _ k bytes hE.und hi0 hz0 hz1 hz2 hE.size hE.pos _ L.length (L.flatMap C) (by rw [hs, hm]) hown ⟨b, 0, none⟩ 1 c (C r) hx (by rw [hE.len]; omega) (World.news_of_block (cs := (C r).toArray) hb)
    (hE.one r) (by omega) (by unfold maxLen; omega) (Nat.le_trans (Nat.mul_le_mul (show L.length + 1 ≤ 1000001 by omega) hsm) (by decide)) hbase w.heap.size rfl ?_
  intro g cap' w' ho' hg hat hlt
  rw [← hm] at ho' ⊢
  refine h g cap' w' ?_ ?_ ?_ hlt
  · unfold OwnG
    rw [List.flatMap_append, List.length_append, List.length_singleton, ← hm]
    simpa using ho'
  · cases R <;> simpa [Value.ownBlock] using hg
  · cases R <;> simpa [Value.ownBlock] using hat
/-- The same at a step of a region that draws its order. -/
theorem step_gen (hE : Elem sT T k bytes z C) {w : World} {ops : Array Oper} {o : Oper} {a : Act} {K : Act → World → Prop} {Q : Exit → Act → World → Prop} {E : Prop} (hgd : o.guard = none) (s x : Operand)
    (ho : o.op = .call { callee := .builtin .append, args := #[s, x], argTypes := #[sT, sT] })
    (base : Nat) (R : Option Addr) (cap m : Nat) (L : List α) (hm : m = L.length) (hs : a.eval s = .slice R m cap) (hown : OwnG T k C w base R cap L)
    (r : α) (b c : Nat) (hx : a.eval x = .slice (some ⟨b, 0, none⟩) 1 c) (hb : w.heap[b]? = some (.cells (C r).toArray T (0, 0)))
    (hfew : m < 1000000) (hbase : base ≤ w.heap.size)
    (h : ∀ g cap' w', OwnG T k C w' base (some ⟨g, 0, none⟩) cap' (L ++ [r]) → w.grownBy w' (R.map (·.block)) → (R.map (·.block) = some g ∨ g = w.heap.size) → g < w'.heap.size → K (a.put o.dst (.slice (some ⟨g, 0, none⟩) (m + 1) cap')) w') :
    if Region.wanted o (yielded ops a.tmps) = true then Oper.wp Tryz.prog o a w K Q else E := by
  obtain ⟨i0, hi0, hz0, hz1, hz2⟩ := info_parts hE.info
  have hsm := hE.small
  refine step_append_lies w hgd s x sT ho base T i0 _ k bytes hE.und hi0 hz0 hz1 hz2 hE.size hE.pos _ L.length (L.flatMap C) (by rw [hs, hm]) hown ⟨b, 0, none⟩ 1 c (C r) hx (by rw [hE.len]; omega) (World.news_of_block (cs := (C r).toArray) hb)
    (hE.one r) (by omega) (by unfold maxLen; omega) (Nat.le_trans (Nat.mul_le_mul (show L.length + 1 ≤ 1000001 by omega) hsm) (by decide)) hbase w.heap.size rfl ?_
  intro g cap' w' ho' hg hat hlt
  rw [← hm] at ho' ⊢
  refine h g cap' w' ?_ ?_ ?_ hlt
  · unfold OwnG
    rw [List.flatMap_append, List.length_append, List.length_singleton, ← hm]
    simpa using ho'
  · cases R <;> simpa [Value.ownBlock] using hg
  · cases R <;> simpa [Value.ownBlock] using hat
/-- append of a row's elements, none or more, to a row that is there. -/
theorem app_genX (hE : Elem sT T k bytes z C) {w : World} {ops : Array Oper} {rest : List Oper} {o : Oper} {a : Act} {Q : Exit → Act → World → Prop} (hgd : o.guard = none) (s x : Operand)
    (ho : o.op = .call { callee := .builtin .append, args := #[s, x], argTypes := #[sT, sT] })
    (base : Nat) (R : Option Addr) (cap k1 m : Nat) (L L2 : List α) (hk : L.length = k1) (hm : L2.length = m) (hs : a.eval s = .slice R k1 cap) (hown : OwnG T k C w base R cap L)
    (ad : Option Addr) (c : Nat) (hx : a.eval x = .slice ad m c) (hA : 0 < m → ∃ x, ad = some x ∧ ∀ j u, (L2.flatMap C)[j]? = some u → w.cell? (x.add j) = some u) (hfew : k1 + m ≤ 1000000 ∨ (bytes = 1 ∧ k1 + m ≤ 140737488355328)) (hbase : base ≤ w.heap.size)
    (h : ∀ R' cap' w', OwnG T k C w' base R' cap' (L ++ L2) → Below base w w' → wpList Tryz.prog ops Q rest (a.put o.dst (.slice R' (k1 + m) cap')) w') :
    wpList Tryz.prog ops Q (o :: rest) a w := by
  obtain ⟨i0, hi0, hz0, hz1, hz2⟩ := info_parts hE.info
  have hsm := hE.small
  by_cases hm0 : m = 0
  · subst hm0
    have hl2 : L2 = [] := List.eq_nil_of_length_eq_zero hm
    subst hl2
    refine wpList_plain hgd fun K hK => ?_
    have hle : k1 ≤ cap := by
      rcases hown.form with ⟨_, e, e2⟩ | ⟨g, _, _, _, e⟩
      · rw [e] at hk; simp at hk; omega
      · omega
    have hsrc : Src Tryz.prog i0.size sT (.slice ad 0 c) 0 [] w := by
      cases ad with
      | none => exact Src.ofNil w hE.und c
      | some ad => exact Src.ofSlice w hE.und ad 0 c [] (by simp) (fun j u hu => by simp at hu) (fun u hu => by cases hu)
    have hrun := run_append_nothing (P := Tryz.prog) w sT sT o.type T i0 hE.und hi0 R k1 cap hle (.slice ad 0 c) hsrc
    have h9 := h R cap w (by rw [List.append_nil]; exact hown) (Below.refl _ _)
    unfold Oper.wp
    simp [execOp, ho, resolve, invoke, builtin, hs, hx, hrun, Result.andThen]
    exact hK _ _ h9
  · obtain ⟨xa, rfl, hA2⟩ := hA (by omega)
    refine wpList_append_lies w hgd s x sT ho base T i0 _ k bytes hE.und hi0 hz0 hz1 hz2 hE.size hE.pos _ L.length (L.flatMap C) (by rw [hs, hk]) hown xa m c (L2.flatMap C) hx (by rw [hE.flat, hm]) hA2
      (fun u hu => by obtain ⟨r, _, hr⟩ := List.mem_flatMap.1 hu; exact hE.one r u hr) (by omega) (by unfold maxLen; omega) (by
        rcases hfew with hf | ⟨hf, hf2⟩
        · exact Nat.le_trans (Nat.mul_le_mul (show L.length + m ≤ 1000000 by omega) hsm) (by decide)
        · rw [hf, Nat.mul_one]; omega) hbase w.heap.size rfl ?_
    intro g cap' w' ho' hg hat hlt
    rw [hk] at ho' ⊢
    refine h (some ⟨g, 0, none⟩) cap' w' ?_ ?_
    · unfold OwnG
      rw [List.flatMap_append, List.length_append, hk, hm]
      exact ho'
    · have hg2 : w.grownBy w' (R.map (·.block)) := by cases R <;> simpa [Value.ownBlock] using hg
      exact (Below.refl _ _).grown hg2 hbase (fun b hb => by
        rcases hown.form with ⟨e, _⟩ | ⟨g, e, h1, _⟩
        · rw [e] at hb; cases hb
        · rw [e] at hb; simp at hb; omega)
end

end Go.Proofs.YtkkmcnngpahfaaaGreatDoor
