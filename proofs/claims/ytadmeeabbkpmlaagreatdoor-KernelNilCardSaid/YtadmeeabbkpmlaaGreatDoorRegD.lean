/- Regions: rows of the call's own that hold regions; an append of one region; Eq, Copy of the references; roomy, kept, own of the statements. -/
import Derived.Test.YtadmeeabbkpmlaaGreatDoorRegC
import Derived.Maps.AppendAt
import Derived.Deep.AppendLies
import Derived.WalkSmall
import Derived.Deep.RegionHeld3
namespace Go.Proofs.YtadmeeabbkpmlaaGreatDoor
open Go.RowKit Go.Sort
set_option linter.unusedSimpArgs false
set_option linter.unusedVariables false

def rc (r : Reg) : List Value := [.int .u64 r.fr, .int .u64 r.to, .int .u8 r.prot, .int .i64 r.ino, .int .u64 r.off]
def rcs : List Reg → List Value
  | [] => []
  | r :: l => rc r ++ rcs l

theorem rcs_append (a b : List Reg) : rcs (a ++ b) = rcs a ++ rcs b := by
  induction a with
  | nil => rfl
  | cons r a ih => simp [rcs, ih]
theorem rcs_one (r : Reg) : rcs [r] = rc r := by simp [rcs]
theorem rcs_length (l : List Reg) : (rcs l).length = l.length * 5 := by
  induction l with
  | nil => rfl
  | cons r l ih => simp [rcs, rc, ih]; omega
theorem rcs_get {l : List Reg} {k : Nat} {r : Reg} (h : l[k]? = some r) (j : Nat) (hj : j < 5) : (rcs l)[k * 5 + j]? = (rc r)[j]? := by
  induction l generalizing k with
  | nil => simp at h
  | cons x l ih =>
    cases k with
    | zero =>
      simp at h
      subst h
      have : (rc x).length = 5 := rfl
      simp [rcs, List.getElem?_append, this, hj]
    | succ k =>
      simp at h
      have e := ih h
      have : (rc x).length = 5 := rfl
      rw [rcs, List.getElem?_append_right (by omega), this, ← e]
      congr 1
      omega
theorem rcs_set {l : List Reg} {k : Nat} (hk : k < l.length) (r : Reg) :
    (((((rcs l).set (k * 5) (.int .u64 r.fr)).set (k * 5 + 1) (.int .u64 r.to)).set (k * 5 + 2) (.int .u8 r.prot)).set (k * 5 + 3) (.int .i64 r.ino)).set (k * 5 + 4) (.int .u64 r.off) = rcs (l.set k r) := by
  induction l generalizing k with
  | nil => simp at hk
  | cons x l ih =>
    cases k with
    | zero => simp [rcs, rc]
    | succ k =>
      have e := ih (k := k) (by simpa using hk)
      have e0 : (k + 1) * 5 = k * 5 + 1 + 1 + 1 + 1 + 1 := by omega
      simp only [rcs, rc, List.cons_append, List.nil_append, List.set_cons_succ] at e ⊢
      rw [e0]
      simp only [Nat.add_right_comm _ _ _, List.set_cons_succ]
      rw [← e]
theorem rcs_one_cell (l : List Reg) : ∀ u ∈ rcs l, u.oneCell' = true := by
  induction l with
  | nil => simp [rcs]
  | cons r l ih =>
    intro u hu
    simp only [rcs, List.mem_append] at hu
    rcases hu with hu | hu
    · simp [rc] at hu
      rcases hu with rfl | rfl | rfl | rfl | rfl <;> rfl
    · exact ih u hu

/-- A row of the call's own. -/
def OwnR (w : World) (base : Nat) (A : Option Addr) (cap : Nat) (l : List Reg) : Prop := w.ownsRow base 179 5 (.slice A l.length cap) l.length (rcs l)

theorem reg_info : (Tryz.prog.info? 179).map (fun i => (i.zero, i.size, i.bytes)) = some (some (.agg #[.int .u64 0, .int .u64 0, .int .u8 0, .int .i64 0, .int .u64 0]), 5, 40) := by kernel_rfl

theorem OwnR.nil (w : World) (base : Nat) : OwnR w base none 0 [] := World.ownsRow_nil w base _ 5
theorem OwnR.kept {w w' : World} {base : Nat} {A : Option Addr} {cap : Nat} {l : List Reg} {row : Option Nat} (h : OwnR w base A cap l) (hg : w.grownBy w' row) (hne : A.map (·.block) = none ∨ A.map (·.block) ≠ row) : OwnR w' base A cap l :=
  World.ownsRow.kept h hg (by cases A <;> simp_all [Value.ownBlock])
theorem OwnR.alloc {w : World} {base : Nat} {A : Option Addr} {cap : Nat} {l : List Reg} (h : OwnR w base A cap l) (o : Obj) : OwnR (w.alloc o) base A cap l := World.ownsRow.alloc h o
theorem OwnR.drew {w : World} {base : Nat} {A : Option Addr} {cap : Nat} {l : List Reg} (h : OwnR w base A cap l) : OwnR w.drew base A cap l := h
theorem OwnR.below {w w' : World} {base B : Nat} {A : Option Addr} {cap : Nat} {l : List Reg} (h : OwnR w base A cap l) (hb : Below B w w') (hB : w.heap.size ≤ B) : OwnR w' base A cap l :=
  h.kept (row := none) ⟨hb.os, hb.tape, hb.output, hb.size, fun k hk _ => hb.block k (by omega)⟩ (by cases A <;> simp)
theorem OwnR.lower {w : World} {base base' : Nat} {A : Option Addr} {cap : Nat} {l : List Reg} (h : OwnR w base A cap l) (hb : base' ≤ base) : OwnR w base' A cap l := by
  refine ⟨h.1, ?_⟩
  rcases h.2 with h2 | ⟨g, cap, cur, h1, h2, h3⟩
  · exact .inl h2
  · exact .inr ⟨g, cap, cur, h1, by omega, h3⟩
theorem OwnR.form {w : World} {base : Nat} {A : Option Addr} {cap : Nat} {l : List Reg} (h : OwnR w base A cap l) : (A = none ∧ l = [] ∧ cap = 0) ∨ ∃ g, A = some ⟨g, 0, none⟩ ∧ base ≤ g ∧ g < w.heap.size ∧ l.length ≤ cap := by
  rcases h.2 with ⟨h2, h3⟩ | ⟨g, cap', cur, h1, h2, h3, h4, _⟩
  · injection h2 with h4 h5 h6
    exact .inl ⟨h4, List.eq_nil_of_length_eq_zero h3, h6⟩
  · injection h1 with e1 e2 e3
    subst e3
    exact .inr ⟨g, e1, h2, (Array.getElem?_eq_some_iff.1 h3).1, h4⟩
theorem OwnR.rsl {w : World} {base : Nat} {A : Option Addr} {cap : Nat} {l : List Reg} (h : OwnR w base A cap l) (hf : l.length ≤ 1000000) : RSl w w.heap.size A l.length cap l := by
  rcases h.form with ⟨rfl, rfl, rfl⟩ | ⟨g, rfl, hb, hg, hc⟩
  · exact ⟨rfl, by simp, hf, fun k r hr => by simp at hr⟩
  · refine ⟨rfl, hc, hf, fun k r hr => ⟨g, 0, rfl, hg, ?_⟩⟩
    have hk : k < l.length := by
      have := (List.getElem?_eq_some_iff.1 hr).1
      exact this
    have e : ∀ j, j < 5 → w.cell? ⟨g, k * 5 + j, none⟩ = (rc r)[j]? := fun j hj => by
      rw [World.ownsRow.cellAt h (k * 5 + j) (by omega), rcs_get hr j hj]
    simp only [Nat.zero_add]
    exact ⟨e 0 (by omega), e 1 (by omega), e 2 (by omega), e 3 (by omega), e 4 (by omega)⟩
theorem OwnR.put {w : World} {base g : Nat} {cap : Nat} {l : List Reg} (h : OwnR w base (some ⟨g, 0, none⟩) cap l) {k : Nat} (hk : k < l.length) (r : Reg) :
    OwnR (((((w.setCell ⟨g, k * 5, none⟩ (.int .u64 r.fr)).setCell ⟨g, k * 5 + 1, none⟩ (.int .u64 r.to)).setCell ⟨g, k * 5 + 2, none⟩ (.int .u8 r.prot)).setCell ⟨g, k * 5 + 3, none⟩ (.int .i64 r.ino)).setCell ⟨g, k * 5 + 4, none⟩ (.int .u64 r.off)) base (some ⟨g, 0, none⟩) cap (l.set k r) := by
  unfold OwnR at *
  rw [List.length_set, ← rcs_set hk r]
  exact (((((h.stored (k * 5) _).1.stored (k * 5 + 1) _).1.stored (k * 5 + 2) _).1.stored (k * 5 + 3) _).1.stored (k * 5 + 4) _).1

/-- append of one region that lies in a block of its own. -/
theorem app_reg {w : World} {ops : Array Oper} {rest : List Oper} {o : Oper} {a : Act} {Q : Exit → Act → World → Prop} (hgd : o.guard = none) (s x : Operand)
    (ho : o.op = .call { callee := .builtin .append, args := #[s, x], argTypes := #[117, 117] })
    (base : Nat) (A : Option Addr) (cap : Nat) (l : List Reg) (hs : a.eval s = .slice A l.length cap) (hown : OwnR w base A cap l)
    (r : Reg) (b c : Nat) (hx : a.eval x = .slice (some ⟨b, 0, none⟩) 1 c) (hb : w.heap[b]? = some (.cells #[.int .u64 r.fr, .int .u64 r.to, .int .u8 r.prot, .int .i64 r.ino, .int .u64 r.off] 179 (0, 0)))
    (hfew : l.length < 1000000) (hbase : base ≤ w.heap.size)
    (h : ∀ g cap' w', OwnR w' base (some ⟨g, 0, none⟩) cap' (l ++ [r]) → w.grownBy w' (A.map (·.block)) → (A.map (·.block) = some g ∨ g = w.heap.size) → g < w'.heap.size → wpList Tryz.prog ops Q rest (a.put o.dst (.slice (some ⟨g, 0, none⟩) (l.length + 1) cap')) w') :
    wpList Tryz.prog ops Q (o :: rest) a w := by
  obtain ⟨i0, hi0, hz0, hz1, hz2⟩ := info_parts reg_info
  refine wpList_append_lies w hgd s x 117 ho base 179 i0 _ 5 40 Tryz.underlying117 hi0 hz0 hz1 hz2 rfl (by omega) _ l.length (rcs l) hs hown ⟨b, 0, none⟩ 1 c (rc r) hx rfl (World.news_of_block (cs := #[.int .u64 r.fr, .int .u64 r.to, .int .u8 r.prot, .int .i64 r.ino, .int .u64 r.off]) hb)
    (by rw [← rcs_one]; exact rcs_one_cell _) (by omega) (by unfold maxLen; omega) (by omega) hbase w.heap.size rfl ?_
  intro g cap' w' ho' hg hat hlt
  refine h g cap' w' ?_ ?_ ?_ hlt
  · unfold OwnR
    rw [rcs_append, rcs_one, List.length_append]
    exact ho'
  · cases A <;> simpa [Value.ownBlock] using hg
  · cases A <;> simpa [Value.ownBlock] using hat

theorem run_neq_reg (a b c d e a' b' c' d' e' : Int) (w : World) : (binOp .neq 179 (.agg #[.int .u64 a, .int .u64 b, .int .u8 c, .int .i64 d, .int .u64 e]) (.agg #[.int .u64 a', .int .u64 b', .int .u8 c', .int .i64 d', .int .u64 e'])).run Tryz.prog w = .ok (.bool (!regEq ⟨a, b, c, d, e⟩ ⟨a', b', c', d', e'⟩)) w := by
  have h : regEq ⟨a, b, c, d, e⟩ ⟨a', b', c', d', e'⟩ = (a == a' && (b == b' && (c == c' && (d == d' && e == e')))) := by
    unfold regEq
    rw [Bool.eq_iff_iff]
    simp
  rw [h]
  go_simp
  by_cases h1 : a = a' <;> by_cases h2 : b = b' <;> by_cases h3 : c = c' <;> by_cases h4 : d = d' <;> by_cases h5 : e = e' <;> simp [h1, h2, h3, h4, h5]

def SameTo (l m : List Reg) (k : Nat) : Prop := ∀ j, j < k → l[j]? = m[j]?
theorem SameTo.succ {l m : List Reg} {k : Nat} (h : SameTo l m k) (e : l[k]? = m[k]?) : SameTo l m (k + 1) := fun j hj => by
  by_cases c : j = k
  · subst c; exact e
  · exact h j (by omega)
theorem SameTo.all {l m : List Reg} {k : Nat} (h : SameTo l m k) (h1 : l.length ≤ k) (h2 : l.length = m.length) : l = m := by
  apply List.ext_getElem?
  intro j
  by_cases c : j < k
  · exact h j c
  · rw [List.getElem?_eq_none (by omega), List.getElem?_eq_none (by omega)]

theorem RSl.cells {w : World} {B : Nat} {b off n cap : Nat} {l : List Reg} (h : RSl w B (some ⟨b, off, none⟩) n cap l) : ∀ j u, (rcs l)[j]? = some u → w.cell? ((⟨b, off, none⟩ : Addr).add j) = some u := by
  intro j u hu
  have hj : j < l.length * 5 := by
    rw [← rcs_length]
    exact (List.getElem?_eq_some_iff.1 hu).1
  obtain ⟨r, hr⟩ : ∃ r, l[j / 5]? = some r := ⟨_, List.getElem?_eq_getElem (by omega)⟩
  obtain ⟨b', off', he, hb, c0, c1, c2, c3, c4⟩ := h.at_ _ r hr
  obtain ⟨rfl, rfl⟩ : b' = b ∧ off' = off := by simpa [eq_comm] using he
  have hm : j = j / 5 * 5 + j % 5 := by omega
  have h5 : j % 5 < 5 := Nat.mod_lt _ (by omega)
  rw [hm, rcs_get hr _ h5] at hu
  have hadd : (⟨b', off', none⟩ : Addr).add j = ⟨b', off' + j / 5 * 5 + j % 5, none⟩ := by
    unfold Addr.add
    split
    · have e1 : j / 5 * 5 = 0 := by omega
      have e2 : j % 5 = 0 := by omega
      rw [e1, e2]
      rfl
    · have e1 : off' + j = off' + j / 5 * 5 + j % 5 := by omega
      show (⟨b', off' + j, none⟩ : Addr) = _
      rw [e1]
  rw [hadd]
  generalize j / 5 * 5 = q at *
  generalize j % 5 = m at *
  match m, h5 with
  | 0, _ => simp [rc] at hu; subst hu; exact c0
  | 1, _ => simp [rc] at hu; subst hu; exact c1
  | 2, _ => simp [rc] at hu; subst hu; exact c2
  | 3, _ => simp [rc] at hu; subst hu; exact c3
  | 4, _ => simp [rc] at hu; subst hu; exact c4

end Go.Proofs.YtadmeeabbkpmlaaGreatDoor
