/- The table's statements: the same leaves, the same numbers. -/
import Derived.Test.YtmkgdgfbdmjeeaaGreatDoorTvA
import Derived.Deep.QuietTactic
import Derived.BigQuiet
import Derived.Lib.QuietBelow
namespace Go.Proofs.YtmkgdgfbdmjeeaaGreatDoor
open Go.RowKit Go.Sort
set_option linter.unusedSimpArgs false
set_option linter.unusedVariables false

theorem pcs_get {l : List (Nat × Leaf)} {k : Nat} {r : Nat × Leaf} (h : l[k]? = some r) (j : Nat) (hj : j < 4) : (l.flatMap pc)[k * 4 + j]? = (pc r)[j]? := by
  induction l generalizing k with
  | nil => simp at h
  | cons x l ih =>
    cases k with
    | zero =>
      simp at h
      subst h
      have : (pc x).length = 4 := rfl
      simp [List.flatMap_cons, List.getElem?_append, this, hj]
    | succ k =>
      simp at h
      have e := ih h
      have : (pc x).length = 4 := rfl
      rw [List.flatMap_cons, List.getElem?_append_right (by omega), this, ← e]
      congr 1
      omega
theorem pcs_length (l : List (Nat × Leaf)) : (l.flatMap pc).length = l.length * 4 := by
  induction l with
  | nil => rfl
  | cons x l ih =>
    rw [List.flatMap_cons, List.length_append, ih]
    have : (pc x).length = 4 := rfl
    simp only [List.length_cons]
    omega
theorem OwnP.elem {w : World} {base g : Nat} {cap : Nat} {l : List (Nat × Leaf)} (h : OwnP w base (some ⟨g, 0, none⟩) cap l) {j : Nat} {x : Nat × Leaf} (hp : l[j]? = some x) :
    w.cell? ⟨g, j * 4, none⟩ = some (.int .u64 ((x.1 * 4096 : Nat) : Int)) ∧ w.cell? ⟨g, j * 4 + 1, none⟩ = some (.int .i64 (x.2.frame : Int)) ∧ w.cell? ⟨g, j * 4 + 2, none⟩ = some (.int .u8 (x.2.prot : Int)) ∧ w.cell? ⟨g, j * 4 + 3, none⟩ = some (.bool x.2.copy) := by
  have hk : j < l.length := (List.getElem?_eq_some_iff.1 hp).1
  have hc : ∀ i, i < 4 → w.cell? ⟨g, j * 4 + i, none⟩ = (pc x)[i]? := fun i hi => by
    rw [World.ownsRow.cellAt h (j * 4 + i) (by omega), pcs_get hp i hi]
  exact ⟨hc 0 (by omega), hc 1 (by omega), hc 2 (by omega), hc 3 (by omega)⟩
theorem OwnP.form {w : World} {base : Nat} {A : Option Addr} {cap : Nat} {l : List (Nat × Leaf)} (h : OwnP w base A cap l) : (A = none ∧ l = [] ∧ cap = 0) ∨ ∃ g, A = some ⟨g, 0, none⟩ ∧ base ≤ g ∧ g < w.heap.size ∧ l.length ≤ cap := rowLikeP.form h
theorem OwnP.same {w w' : World} {base : Nat} {A : Option Addr} {cap : Nat} {l : List (Nat × Leaf)} (h : OwnP w base A cap l) (hb : ∀ g, A = some ⟨g, 0, none⟩ → w'.heap[g]? = w.heap[g]?) : OwnP w' base A cap l := rowLikeP.same h hb
theorem OwnP.kept {w w' : World} {base : Nat} {A : Option Addr} {cap : Nat} {l : List (Nat × Leaf)} (h : OwnP w base A cap l) (hb : Below w.heap.size w w') : OwnP w' base A cap l := h.same fun g hg => by
  rcases h.form with ⟨e, _⟩ | ⟨g', e, _, hlt, _⟩
  · rw [e] at hg; cases hg
  · rw [e] at hg; injection hg with hg; injection hg with hg; subst hg; exact hb.block _ hlt
theorem OwnN.kept {w w' : World} {base : Nat} {A : Option Addr} {cap : Nat} {l : List Nat} (h : OwnN w base A cap l) (hb : Below w.heap.size w w') : OwnN w' base A cap l := h.same fun g hg => by
  rcases h.form with ⟨e, _⟩ | ⟨g', e, _, hlt, _⟩
  · rw [e] at hg; cases hg
  · rw [e] at hg; injection hg with hg; injection hg with hg; subst hg; exact hb.block _ hlt

set_option maxHeartbeats 1000000 in
theorem sameInts_yes (base1 base2 : Nat) (A1 A2 : Option Addr) (c1 c2 : Nat) (l : List Nat) (w : World) (h1 : OwnN w base1 A1 c1 l) (h2 : OwnN w base2 A2 c2 l) (hfew : l.length ≤ 10000000) :
    Calls Tryz.prog 32 #[.slice A1 l.length c1, .slice A2 l.length c2] w fun e w' => e = .returned (.bool true) ∧ Below w.heap.size w w' := by
  have H1 := Lib.hid h1
  have H2 := Lib.hid h2
  have hf1 := h1.form
  have hf2 := h2.form
  clear h1 h2
  go_enter Tryz.func32, Tryz.ntmps32
  go_wp2_with fail
  go_loopw [5] (fun i wr => ∃ k : Nat, i = .int .i64 (k : Int) ∧ k ≤ l.length ∧ Below w.heap.size w wr) (fun i _ => l.length - (intOf i).toNat)
  case atStart => exact ⟨0, rfl, Nat.zero_le _, Below.refl _ _⟩
  case round =>
    obtain ⟨k, rfl, hk, hb⟩ := hrel
    have HB := Lib.hid hb
    clear hb
    by_cases hlt : k < l.length
    · obtain ⟨x, hx⟩ : ∃ x, l[k]? = some x := ⟨l[k], List.getElem?_eq_getElem hlt⟩
      rcases hf1 with ⟨_, e, _⟩ | ⟨g1, e1, _, hg1, hc1⟩
      · rw [e] at hlt; cases hlt
      rcases hf2 with ⟨_, e, _⟩ | ⟨g2, e2, _, hg2, hc2⟩
      · rw [e] at hlt; cases hlt
      subst e1 e2
      have d1 : ∀ d os, (grow (redrawn wr d) os).cell? ⟨g1, k, none⟩ = some (.int .i64 (x : Int)) := fun d os => cell_regrown ((H1.out.kept HB.out).elem hx) d os
      have d2 : ∀ d os, (grow (redrawn wr d) os).cell? ⟨g2, k, none⟩ = some (.int .i64 (x : Int)) := fun d os => cell_regrown ((H2.out.kept HB.out).elem hx) d os
      have hkl : (k : Int) < (l.length : Int) := by omega
      clear hx
      go_upto_region 6 with (fail)
      refine wp_region_quiet_below (by kernel_rfl) (by kernel_rfl) ?_; (repeat (go_big_quiet_step ((fail)))); refine wpQuiet_nil ?_; intro _ hw'; obtain ⟨⟨dq, osq⟩, hw''⟩ := hw'; subst hw''; have hbq := below_regrown (wr) dq osq; generalize grow (redrawn (wr) dq) osq = wq at hbq ⊢
      go_wp2_with fail
      go_roundw
      case rel => exact ⟨k + 1, by go_num, by omega, HB.out.trans (hbq.mono HB.out.size)⟩
      case measure => (simp [intOf]; omega)
    · obtain rfl : k = l.length := by omega
      go_wp2_with fail
      go_ret
      exact ⟨rfl, HB.out⟩
set_option maxHeartbeats 1000000 in
theorem samePuts_yes (base1 base2 : Nat) (A1 A2 : Option Addr) (c1 c2 : Nat) (l : List (Nat × Leaf)) (w : World) (h1 : OwnP w base1 A1 c1 l) (h2 : OwnP w base2 A2 c2 l) (hfew : l.length ≤ 10000000) :
    Calls Tryz.prog 31 #[.slice A1 l.length c1, .slice A2 l.length c2] w fun e w' => e = .returned (.bool true) ∧ Below w.heap.size w w' := by
  have H1 := Lib.hid h1
  have H2 := Lib.hid h2
  have hf1 := h1.form
  have hf2 := h2.form
  clear h1 h2
  go_enter Tryz.func31, Tryz.ntmps31
  go_wp2_with fail
  go_loopw [5] (fun i wr => ∃ k : Nat, i = .int .i64 (k : Int) ∧ k ≤ l.length ∧ Below w.heap.size w wr) (fun i _ => l.length - (intOf i).toNat)
  case atStart => exact ⟨0, rfl, Nat.zero_le _, Below.refl _ _⟩
  case round =>
    obtain ⟨k, rfl, hk, hb⟩ := hrel
    have HB := Lib.hid hb
    clear hb
    by_cases hlt : k < l.length
    · obtain ⟨x, hx⟩ : ∃ x, l[k]? = some x := ⟨l[k], List.getElem?_eq_getElem hlt⟩
      rcases hf1 with ⟨_, e, _⟩ | ⟨g1, e1, _, hg1, hc1⟩
      · rw [e] at hlt; cases hlt
      rcases hf2 with ⟨_, e, _⟩ | ⟨g2, e2, _, hg2, hc2⟩
      · rw [e] at hlt; cases hlt
      subst e1 e2
      obtain ⟨a0, a1, a2, a3⟩ := (H1.out.kept HB.out).elem hx
      obtain ⟨b0, b1, b2, b3⟩ := (H2.out.kept HB.out).elem hx
      obtain ⟨x1, hx1⟩ : ∃ v, v = ((x.1 * 4096 : Nat) : Int) := ⟨_, rfl⟩
      rw [← hx1] at a0 b0
      have d0 : ∀ d os, (grow (redrawn wr d) os).cell? ⟨g1, k * 4, none⟩ = some (.int .u64 x1) := fun d os => cell_regrown a0 d os
      have d1 : ∀ d os, (grow (redrawn wr d) os).cell? ⟨g1, k * 4 + 1, none⟩ = some (.int .i64 (x.2.frame : Int)) := fun d os => cell_regrown a1 d os
      have d2 : ∀ d os, (grow (redrawn wr d) os).cell? ⟨g1, k * 4 + 2, none⟩ = some (.int .u8 (x.2.prot : Int)) := fun d os => cell_regrown a2 d os
      have d3 : ∀ d os, (grow (redrawn wr d) os).cell? ⟨g1, k * 4 + 3, none⟩ = some (.bool x.2.copy) := fun d os => cell_regrown a3 d os
      have f0 : ∀ d os, (grow (redrawn wr d) os).cell? ⟨g2, k * 4, none⟩ = some (.int .u64 x1) := fun d os => cell_regrown b0 d os
      have f1 : ∀ d os, (grow (redrawn wr d) os).cell? ⟨g2, k * 4 + 1, none⟩ = some (.int .i64 (x.2.frame : Int)) := fun d os => cell_regrown b1 d os
      have f2 : ∀ d os, (grow (redrawn wr d) os).cell? ⟨g2, k * 4 + 2, none⟩ = some (.int .u8 (x.2.prot : Int)) := fun d os => cell_regrown b2 d os
      have f3 : ∀ d os, (grow (redrawn wr d) os).cell? ⟨g2, k * 4 + 3, none⟩ = some (.bool x.2.copy) := fun d os => cell_regrown b3 d os
      have hkl : (k : Int) < (l.length : Int) := by omega
      clear hx hx1 a0 a1 a2 a3 b0 b1 b2 b3
      go_upto_region 6 with (fail)
      refine wp_region_quiet_below (by kernel_rfl) (by kernel_rfl) ?_; (repeat (go_big_quiet_step ((fail)))); refine wpQuiet_nil ?_; intro _ hw'; obtain ⟨⟨dq, osq⟩, hw''⟩ := hw'; subst hw''; have hbq := below_regrown (wr) dq osq; generalize grow (redrawn (wr) dq) osq = wq at hbq ⊢
      go_wp2_with fail
      go_roundw
      case rel => exact ⟨k + 1, by go_num, by omega, HB.out.trans (hbq.mono HB.out.size)⟩
      case measure => (simp [intOf]; omega)
    · obtain rfl : k = l.length := by omega
      go_wp2_with fail
      go_ret
      exact ⟨rfl, HB.out⟩

theorem leaf_set {w : World} {b : Nat} {x0 x1 x2 y0 y1 y2 : Value} {T : TypeId} (h : w.heap[b]? = some (.cells #[x0, x1, x2] T (0, 0))) : (((w.setCell ⟨b, 0, none⟩ y0).setCell ⟨b, 1, none⟩ y1).setCell ⟨b, 2, none⟩ y2).heap[b]? = some (.cells #[y0, y1, y2] T (0, 0)) := by
  have h1 := Joins.block_setCell (i := 2) (Joins.block_setCell (i := 1) (Joins.block_setCell (i := 0) h y0) y1) y2
  simpa using h1
theorem leaf_far {w : World} {b c i : Nat} {y0 y1 y2 v : Value} (h : w.cell? ⟨c, i, none⟩ = some v) (hne : c ≠ b) : (((w.setCell ⟨b, 0, none⟩ y0).setCell ⟨b, 1, none⟩ y1).setCell ⟨b, 2, none⟩ y2).cell? ⟨c, i, none⟩ = some v := by
  have hm : Mod (fun j => j = b) w (((w.setCell ⟨b, 0, none⟩ y0).setCell ⟨b, 1, none⟩ y1).setCell ⟨b, 2, none⟩ y2) := ((mod_set (S := fun j => j = b) rfl 0 y0).trans (Out.refl _ _) (mod_set (S := fun j => j = b) rfl 1 y1)).trans (Out.refl _ _) (mod_set (S := fun j => j = b) rfl 2 y2)
  rw [← h]
  exact World.cell?_of_block (hm.block c (World.block_lt_of_cell? _ _ h) hne)

end Go.Proofs.YtmkgdgfbdmjeeaaGreatDoor
