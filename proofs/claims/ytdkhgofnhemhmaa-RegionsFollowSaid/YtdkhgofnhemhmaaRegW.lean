/- Regions: the plain law of Gap (nothing lies there, and no lower place does); the walk of the statement RegionsLowest. -/
import Derived.Test.YtdkhgofnhemhmaaRegR
namespace Go.Proofs.Ytdkhgofnhemhmaa
open Go.RowKit Go.Sort
set_option linter.unusedSimpArgs false
set_option linter.unusedVariables false

theorem gapL_room {l : List Reg} {s a x : Int} (h1 : ∀ r ∈ l, Rg.one r = true) (hs : 0 < s) (h : Rg.gapL l s a = (x, 0)) : a ≤ x ∧ x ≤ 140737488355328 - s ∧ (a % 4096 = 0 → x % 4096 = 0) := by
  induction l generalizing a with
  | nil =>
    unfold Rg.gapL at h
    split at h
    · simp at h
    · simp at h; omega
  | cons r l ih =>
    have hr := one_spec (h1 r (by simp))
    have h1' : ∀ r ∈ l, Rg.one r = true := fun y hy => h1 y (by simp [hy])
    unfold Rg.gapL at h
    split at h
    · split at h
      · simp at h; omega
      · have := ih h1' h
        omega
    · exact ih h1' h
theorem gapL_free {l : List Reg} {s a x : Int} (h1 : ∀ r ∈ l, Rg.one r = true) (hap : Apart l) (hs : 0 < s) (h : Rg.gapL l s a = (x, 0)) : ∀ r ∈ l, r.to ≤ x ∨ x + s ≤ r.fr := by
  induction l generalizing a with
  | nil => simp
  | cons r l ih =>
    have h1' : ∀ r ∈ l, Rg.one r = true := fun y hy => h1 y (by simp [hy])
    have hap' : Apart l := ⟨(List.pairwise_cons.1 hap.1).2, fun y hy => hap.2 y (by simp [hy])⟩
    have hhd := (List.pairwise_cons.1 hap.1).1
    have hlt := hap.2 r (by simp)
    unfold Rg.gapL at h
    split at h
    · split at h
      · rename_i c1 c2
        simp at h
        intro y hy
        rcases List.mem_cons.1 hy with rfl | hy
        · right; omega
        · have := hhd y hy
          right; omega
      · intro y hy
        rcases List.mem_cons.1 hy with rfl | hy
        · have := (gapL_room h1' hs h).1
          left; omega
        · exact ih h1' hap' h y hy
    · rename_i c1
      intro y hy
      rcases List.mem_cons.1 hy with rfl | hy
      · have := (gapL_room h1' hs h).1
        left; omega
      · exact ih h1' hap' h y hy
theorem gapL_low {l : List Reg} {s a x : Int} (h1 : ∀ r ∈ l, Rg.one r = true) (hap : Apart l) (hs : 0 < s) (h : Rg.gapL l s a = (x, 0)) :
    (a < x → ∃ r ∈ l, r.fr < a + s ∧ a < r.to) ∧ ∀ y ∈ l, a < y.to → y.to < x → ∃ r ∈ l, r.fr < y.to + s ∧ y.to < r.to := by
  induction l generalizing a with
  | nil =>
    unfold Rg.gapL at h
    split at h
    · simp at h
    · simp at h; exact ⟨fun _ => by omega, fun y hy => by simp at hy⟩
  | cons r l ih =>
    have h1' : ∀ r ∈ l, Rg.one r = true := fun y hy => h1 y (by simp [hy])
    have hap' : Apart l := ⟨(List.pairwise_cons.1 hap.1).2, fun y hy => hap.2 y (by simp [hy])⟩
    have hhd := (List.pairwise_cons.1 hap.1).1
    have hlt := hap.2 r (by simp)
    unfold Rg.gapL at h
    split at h
    · split at h
      · simp at h; exact ⟨fun _ => by omega, fun y hy => by omega⟩
      · rename_i c1 c2
        obtain ⟨i1, i2⟩ := ih h1' hap' h
        refine ⟨fun _ => ⟨r, by simp, by omega, c1⟩, fun y hy h2 h3 => ?_⟩
        rcases List.mem_cons.1 hy with rfl | hy
        · obtain ⟨z, hz, h4⟩ := i1 h3
          exact ⟨z, by simp [hz], h4⟩
        · have h4 := hhd y hy
          have h5 := hap'.2 y hy
          obtain ⟨z, hz, h6⟩ := i2 y hy (by omega) h3
          exact ⟨z, by simp [hz], h6⟩
    · rename_i c1
      obtain ⟨i1, i2⟩ := ih h1' hap' h
      refine ⟨fun h2 => ?_, fun y hy h2 h3 => ?_⟩
      · obtain ⟨z, hz, h4⟩ := i1 h2
        exact ⟨z, by simp [hz], h4⟩
      · rcases List.mem_cons.1 hy with rfl | hy
        · omega
        · obtain ⟨z, hz, h6⟩ := i2 y hy h2 h3
          exact ⟨z, by simp [hz], h6⟩

/-- What Gap says where it finds a place. -/
structure GapOk (l : List Reg) (s a x : Int) : Prop where
  one : ∀ r ∈ l, Rg.one r = true
  pos : 0 < s
  le : a ≤ x
  room : x ≤ 140737488355328 - s
  page : x % 4096 = 0
  free : ∀ r ∈ l, r.to ≤ x ∨ x + s ≤ r.fr
  low1 : a < x → ∃ r ∈ l, r.fr < a + s ∧ a < r.to
  low2 : ∀ y ∈ l, a < y.to → y.to < x → ∃ r ∈ l, r.fr < y.to + s ∧ y.to < r.to

theorem gapL_err {l : List Reg} {s a : Int} : (Rg.gapL l s a).2 = 0 ∨ Rg.gapL l s a = (0, 4) := by
  induction l generalizing a with
  | nil => unfold Rg.gapL; split <;> simp
  | cons r l ih =>
    unfold Rg.gapL
    split
    · split
      · simp
      · exact ih
    · exact ih
theorem gap_cases {l : List Reg} {s a : Int} (hs : 0 ≤ s) : (∃ e, Rg.gap l s a = (0, e) ∧ (e = 1 ∨ e = 4)) ∨ ∃ x, Rg.gap l s a = (x, 0) ∧ GapOk l s a x ∧ l.length ≤ 64 := by
  by_cases hb : Rg.right l = false ∨ s = 0 ∨ ¬ s % 4096 = 0 ∨ ¬ a % 4096 = 0
  · exact .inl ⟨1, gap_bad hb, .inl rfl⟩
  · rw [gap_good hb]
    have hr : Rg.right l = true := by
      cases h : Rg.right l
      · exact absurd (.inl h) hb
      · rfl
    have h1 := right_one hr
    have hap := right_apart hr
    rcases gapL_err (l := l) (s := s) (a := a) with h | h
    · right
      obtain ⟨x, hx⟩ : ∃ x, Rg.gapL l s a = (x, 0) := ⟨(Rg.gapL l s a).1, by rw [← h]⟩
      have hpos : 0 < s := by omega
      obtain ⟨g1, g2, g3⟩ := gapL_room h1 hpos hx
      obtain ⟨g4, g5⟩ := gapL_low h1 hap hpos hx
      exact ⟨x, hx, ⟨h1, hpos, g1, g2, g3 (by omega), gapL_free h1 hap hpos hx, g4, g5⟩, (right_all hr).2⟩
    · exact .inl ⟨4, h, .inr rfl⟩

/-- An address at which the statement tries, and something lies there. -/
def Met (l : List Reg) (s t : Int) : Prop := 0 ≤ t ∧ t ≤ 140737488355328 - s ∧ ∃ r ∈ l, r.fr < t + s ∧ t < r.to
def metTo (l : List Reg) (s t : Int) (k : Nat) : Bool := (l.take k).any fun r => decide (r.fr < t + s) && decide (t < r.to)
theorem metTo_zero (l : List Reg) (s t : Int) : metTo l s t 0 = false := rfl
theorem metTo_succ {l : List Reg} {s t : Int} {k : Nat} {r : Reg} (hr : l[k]? = some r) : metTo l s t (k + 1) = (metTo l s t k || (decide (r.fr < t + s) && decide (t < r.to))) := by
  unfold metTo
  rw [List.take_add_one, hr]
  simp
theorem metTo_all {l : List Reg} {s t : Int} {k : Nat} (hk : l.length ≤ k) (h : Met l s t) : metTo l s t k = true := by
  unfold metTo
  rw [List.take_of_length_le hk, List.any_eq_true]
  obtain ⟨_, _, r, hr, h1, h2⟩ := h
  exact ⟨r, hr, by simp [h1, h2]⟩

/-- A row of the call's own that holds uint64s. -/
def OwnU (w : World) (base : Nat) (A : Option Addr) (cap : Nat) (l : List Int) : Prop := w.ownsRow base 23 1 (.slice A l.length cap) l.length (l.map (Value.int .u64))

theorem u64_info : (Try.prog.info? 23).map (fun i => (i.zero, i.size, i.bytes)) = some (some (.int .u64 0), 1, 8) := by kernel_rfl

theorem OwnU.form {w : World} {base : Nat} {A : Option Addr} {cap : Nat} {l : List Int} (h : OwnU w base A cap l) : (A = none ∧ l = [] ∧ cap = 0) ∨ ∃ g, A = some ⟨g, 0, none⟩ ∧ base ≤ g ∧ g < w.heap.size ∧ l.length ≤ cap := by
  rcases h.2 with ⟨h2, h3⟩ | ⟨g, cap', cur, h1, h2, h3, h4, _⟩
  · injection h2 with h4 h5 h6
    exact .inl ⟨h4, List.eq_nil_of_length_eq_zero h3, h6⟩
  · injection h1 with e1 e2 e3
    subst e3
    exact .inr ⟨g, e1, h2, (Array.getElem?_eq_some_iff.1 h3).1, h4⟩
theorem OwnU.row {w : World} {base : Nat} {A : Option Addr} {cap : Nat} {l : List Int} (h : OwnU w base A cap l) : ∀ b, A.map (·.block) = some b → base ≤ b ∧ b < w.heap.size := fun b hb => by
  rcases h.form with ⟨h1, _, _⟩ | ⟨g1, h1, h2, h3, h4⟩
  · rw [h1] at hb; simp at hb
  · rw [h1] at hb; simp at hb; subst hb; exact ⟨h2, h3⟩
theorem OwnU.below {w w' : World} {base B : Nat} {A : Option Addr} {cap : Nat} {l : List Int} (h : OwnU w base A cap l) (hb : Below B w w') (hB : w.heap.size ≤ B) : OwnU w' base A cap l :=
  World.ownsRow.kept h (row := none) ⟨hb.os, hb.tape, hb.output, hb.size, fun k hk _ => hb.block k (by omega)⟩ (by cases A <;> simp [Value.ownBlock])
theorem OwnU.alloc {w : World} {base : Nat} {A : Option Addr} {cap : Nat} {l : List Int} (h : OwnU w base A cap l) (o : Obj) : OwnU (w.alloc o) base A cap l := World.ownsRow.alloc h o
theorem OwnU.elem {w : World} {base g : Nat} {cap : Nat} {l : List Int} (h : OwnU w base (some ⟨g, 0, none⟩) cap l) {j : Nat} {t : Int} (hp : l[j]? = some t) : w.cell? ⟨g, j, none⟩ = some (.int .u64 t) := by
  have hk : j < l.length := (List.getElem?_eq_some_iff.1 hp).1
  rw [World.ownsRow.cellAt h j (by omega), List.getElem?_map, hp]
  rfl
theorem OwnU.one (w : World) (t : Int) : OwnU (w.alloc (.cells #[.int .u64 t] 23)) w.heap.size (some ⟨w.heap.size, 0, none⟩) 1 [t] :=
  ⟨rfl, .inr ⟨w.heap.size, 1, #[.int .u64 t], rfl, Nat.le_refl _, heap_alloc_new w _, Nat.le_refl _, by decide, rfl, rfl⟩⟩
theorem app_u64 {w : World} {ops : Array Oper} {rest : List Oper} {o : Oper} {a : Act} {Q : Exit → Act → World → Prop} (hgd : o.guard = none) (s x : Operand)
    (ho : o.op = .call { callee := .builtin .append, args := #[s, x], argTypes := #[42, 42] })
    (base : Nat) (A : Option Addr) (cap : Nat) (l : List Int) (hs : a.eval s = .slice A l.length cap) (hown : OwnU w base A cap l)
    (t : Int) (b c : Nat) (hx : a.eval x = .slice (some ⟨b, 0, none⟩) 1 c) (hb : w.heap[b]? = some (.cells #[.int .u64 t] 23 (0, 0)))
    (hfew : l.length < 1000000) (hbase : base ≤ w.heap.size)
    (h : ∀ g cap' w', OwnU w' base (some ⟨g, 0, none⟩) cap' (l ++ [t]) → w.grownBy w' (A.map (·.block)) → (A.map (·.block) = some g ∨ g = w.heap.size) → g < w'.heap.size → wpList Try.prog ops Q rest (a.put o.dst (.slice (some ⟨g, 0, none⟩) (l.length + 1) cap')) w') :
    wpList Try.prog ops Q (o :: rest) a w := by
  obtain ⟨i0, hi0, hz0, hz1, hz2⟩ := info_parts u64_info
  refine wpList_append_lies w hgd s x 42 ho base 23 i0 _ 1 8 Try.underlying42 hi0 hz0 hz1 hz2 rfl (by omega) _ l.length (l.map (Value.int .u64)) hs hown ⟨b, 0, none⟩ 1 c [.int .u64 t] hx rfl (World.news_of_block (cs := #[.int .u64 t]) hb)
    (by simp [Value.oneCell']) (by omega) (by unfold maxLen; omega) (by omega) hbase w.heap.size rfl ?_
  intro g cap' w' ho' hg hat hlt
  refine h g cap' w' ?_ ?_ ?_ hlt
  · unfold OwnU
    rw [List.map_append, List.length_append]
    exact ho'
  · cases A <;> simpa [Value.ownBlock] using hg
  · cases A <;> simpa [Value.ownBlock] using hat

end Go.Proofs.Ytdkhgofnhemhmaa
