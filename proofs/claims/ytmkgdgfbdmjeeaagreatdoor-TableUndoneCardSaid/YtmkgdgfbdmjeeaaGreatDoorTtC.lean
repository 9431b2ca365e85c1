/- Tables: descend, where no leaf lies. -/
import Derived.Test.YtmkgdgfbdmjeeaaGreatDoorTtB
import Derived.Test.YtmkgdgfbdmjeeaaGreatDoorTbA
namespace Go.Proofs.YtmkgdgfbdmjeeaaGreatDoor
open Go.RowKit
set_option linter.unusedSimpArgs false
set_option linter.unusedVariables false

/-- On a page's way each node is a taken frame, and its word says what the tree says. -/
structure Way (p : Pool) (T : Tab) (pg : Nat) : Prop where
  node : ∀ lv f, 1 ≤ lv → lv ≤ 4 → T.nd lv (part pg lv) = some f → f < p.n ∧ 1 ≤ p.cnt f ∧ word (p.dat f) (num pg lv) = T.on pg lv
  few : p.n ≤ 1024
  prot : ∀ l, T.lf pg = some l → l.prot ≤ 7 ∧ l.frame < p.n
theorem Tab.Good.way {p : Pool} {t : Tab} {rest : Nat → Nat} {pg0 lv0 : Nat} (h : t.Good p rest pg0 lv0) (pg : Nat) : Way p t pg :=
  ⟨fun lv f h1 h4 hf => ⟨(h.node hf).1, (h.node hf).2, (h.but.words lv _ f hf).2 _ (num_lt _ _)⟩, h.but.few, fun l hl => (h.but.leaf pg l hl).2⟩
theorem and_one {x : Nat} (hx : x < 18446744073709551616) : bits .and .u64 (x : Int) 1 = ((x % 2 : Nat) : Int) := by
  have e3 : (1 : Int) = ((1 : Nat) : Int) := rfl
  rw [e3, bits_and_u64_nat _ _ hx (by omega), Nat.and_one_is_mod]
theorem and_odd {x : Nat} (hx : x < 18446744073709551616) (h : x % 2 = 1) : (bits .and .u64 (x : Int) 1 == 0) = false := by
  rw [and_one hx, h]; rfl
theorem and_none : (bits .and .u64 0 1 == 0) = true := by decide +kernel

set_option maxRecDepth 100000 in
set_option maxHeartbeats 1000000 in
theorem descend_none1 (t c a root f pg : Nat) (V : Value) (w : World) (S : Nat → Prop) (p : Pool) (T : Tab) (h : PoolAt w S a p) (ht : TabSelf w t c a root) (htw : t < w.heap.size) (hw : Way p T pg) (hno : T.lf pg = none)
    (hf : T.nd 1 (part pg 1) = some f) :
    Calls Tryz.prog 87 #[.pointer (some ⟨t, 0, none⟩), .int .i64 (f : Int), wayA pg, .int .i64 3, V] w fun e w' => e = .returned (.tuple #[.bool false, .bool false]) ∧ Below w.heap.size w w' := by
  obtain ⟨f1, f2, f3⟩ := hw.node 1 f (by omega) (by omega) hf
  have hB0 : Below w.heap.size w (w.alloc (.cells #[.int .i64 ((num pg 4 : Nat) : Int), .int .i64 ((num pg 3 : Nat) : Int), .int .i64 ((num pg 2 : Nat) : Int), .int .i64 ((num pg 1 : Nat) : Int)] 144)) := (Below.refl _ _).alloc (Nat.le_refl _) _
  have hP0 := h.below hB0
  have hT0 : TabSelf (w.alloc (.cells #[.int .i64 ((num pg 4 : Nat) : Int), .int .i64 ((num pg 3 : Nat) : Int), .int .i64 ((num pg 2 : Nat) : Int), .int .i64 ((num pg 1 : Nat) : Int)] 144)) t c a root := (hB0.block t htw).trans ht
  have hX0 := heap_alloc_new w (.cells #[.int .i64 ((num pg 4 : Nat) : Int), .int .i64 ((num pg 3 : Nat) : Int), .int .i64 ((num pg 2 : Nat) : Int), .int .i64 ((num pg 1 : Nat) : Int)] 144)
  have hn := num_lt pg 1
  have HF3 := Lib.hid f3
  have HN := Lib.hid hno
  have HF := Lib.hid hf
  clear f3 hno hf
  unfold wayA
  go_enter Tryz.func87, Tryz.ntmps87
  go_upto_region 1 with (fail)
  generalize hw0 : w.alloc (.cells #[.int .i64 ((num pg 4 : Nat) : Int), .int .i64 ((num pg 3 : Nat) : Int), .int .i64 ((num pg 2 : Nat) : Int), .int .i64 ((num pg 1 : Nat) : Int)] 144) = w0 at *
  have hs0 : w0.heap.size = w.heap.size + 1 := by rw [← hw0]; simp
  have hs0' : w.heap.size < w0.heap.size := by omega
  have htw0 : t < w0.heap.size := by omega
  clear hw0 hs0 h ht
  have c0 : w0.cell? ⟨w.heap.size, 0, none⟩ = some (.int .i64 ((num pg 4 : Nat) : Int)) := one_block hX0 0
  have c1 : w0.cell? ⟨w.heap.size, 1, none⟩ = some (.int .i64 ((num pg 3 : Nat) : Int)) := one_block hX0 1
  have c2 : w0.cell? ⟨w.heap.size, 2, none⟩ = some (.int .i64 ((num pg 2 : Nat) : Int)) := one_block hX0 2
  have c3 : w0.cell? ⟨w.heap.size, 3, none⟩ = some (.int .i64 ((num pg 1 : Nat) : Int)) := one_block hX0 3
  go_wp2_with fail
  refine (tword_any t c a root f (num pg 1) w0 S p hP0 hT0 f1 f2 hn).mono ?_
  rintro e w1 ⟨rfl, hb1⟩
  have hz1 := hb1.size
  have e0 : word (p.dat f) (num pg 1) = 0 := by (rw [HF3.out, Tab.on_one, HN.out])
  rw [e0]
  have hz := and_none
  go_wp2_with fail
  go_ret2
  exact ⟨rfl, hB0.trans (hb1.mono (Nat.le_of_lt hs0'))⟩


set_option maxRecDepth 100000 in
set_option maxHeartbeats 1000000 in
theorem descend_none2 (t c a root f pg : Nat) (V : Value) (w : World) (S : Nat → Prop) (p : Pool) (T : Tab) (h : PoolAt w S a p) (ht : TabSelf w t c a root) (htw : t < w.heap.size) (hw : Way p T pg) (hno : T.lf pg = none)
    (hf : T.nd 2 (part pg 2) = some f) :
    Calls Tryz.prog 87 #[.pointer (some ⟨t, 0, none⟩), .int .i64 (f : Int), wayA pg, .int .i64 2, V] w fun e w' => e = .returned (.tuple #[.bool false, .bool false]) ∧ Below w.heap.size w w' := by
  obtain ⟨f1, f2, f3⟩ := hw.node 2 f (by omega) (by omega) hf
  have hB0 : Below w.heap.size w (w.alloc (.cells #[.int .i64 ((num pg 4 : Nat) : Int), .int .i64 ((num pg 3 : Nat) : Int), .int .i64 ((num pg 2 : Nat) : Int), .int .i64 ((num pg 1 : Nat) : Int)] 144)) := (Below.refl _ _).alloc (Nat.le_refl _) _
  have hP0 := h.below hB0
  have hT0 : TabSelf (w.alloc (.cells #[.int .i64 ((num pg 4 : Nat) : Int), .int .i64 ((num pg 3 : Nat) : Int), .int .i64 ((num pg 2 : Nat) : Int), .int .i64 ((num pg 1 : Nat) : Int)] 144)) t c a root := (hB0.block t htw).trans ht
  have hX0 := heap_alloc_new w (.cells #[.int .i64 ((num pg 4 : Nat) : Int), .int .i64 ((num pg 3 : Nat) : Int), .int .i64 ((num pg 2 : Nat) : Int), .int .i64 ((num pg 1 : Nat) : Int)] 144)
  have hn := num_lt pg 2
  have HF3 := Lib.hid f3
  have HN := Lib.hid hno
  have HF := Lib.hid hf
  clear f3 hno hf
  unfold wayA
  go_enter Tryz.func87, Tryz.ntmps87
  go_upto_region 1 with (fail)
  generalize hw0 : w.alloc (.cells #[.int .i64 ((num pg 4 : Nat) : Int), .int .i64 ((num pg 3 : Nat) : Int), .int .i64 ((num pg 2 : Nat) : Int), .int .i64 ((num pg 1 : Nat) : Int)] 144) = w0 at *
  have hs0 : w0.heap.size = w.heap.size + 1 := by rw [← hw0]; simp
  have hs0' : w.heap.size < w0.heap.size := by omega
  have htw0 : t < w0.heap.size := by omega
  clear hw0 hs0 h ht
  have c0 : w0.cell? ⟨w.heap.size, 0, none⟩ = some (.int .i64 ((num pg 4 : Nat) : Int)) := one_block hX0 0
  have c1 : w0.cell? ⟨w.heap.size, 1, none⟩ = some (.int .i64 ((num pg 3 : Nat) : Int)) := one_block hX0 1
  have c2 : w0.cell? ⟨w.heap.size, 2, none⟩ = some (.int .i64 ((num pg 2 : Nat) : Int)) := one_block hX0 2
  have c3 : w0.cell? ⟨w.heap.size, 3, none⟩ = some (.int .i64 ((num pg 1 : Nat) : Int)) := one_block hX0 3
  go_wp2_with fail
  refine (tword_any t c a root f (num pg 2) w0 S p hP0 hT0 f1 f2 hn).mono ?_
  rintro e w1 ⟨rfl, hb1⟩
  have hz1 := hb1.size
  have hz := and_none
  cases hg : T.nd 1 (part pg 1) with
  | none =>
    have e0 : word (p.dat f) (num pg 2) = 0 := by (rw [HF3.out, Tab.on_more _ _ _ (by omega)]; show (match T.nd 1 (part pg 1) with | some f => f * 4096 + 1 | none => 0) = 0; rw [hg])
    clear hg
    rw [e0]
    go_wp2_with fail
    go_ret2
    exact ⟨rfl, hB0.trans (hb1.mono (Nat.le_of_lt hs0'))⟩
  | some g =>
    have e0 : word (p.dat f) (num pg 2) = g * 4096 + 1 := by (rw [HF3.out, Tab.on_more _ _ _ (by omega)]; show (match T.nd 1 (part pg 1) with | some f => f * 4096 + 1 | none => 0) = _; rw [hg])
    obtain ⟨g1, g2, _⟩ := hw.node 1 g (by omega) (by omega) hg
    have hfew := hw.few
    obtain ⟨x, hx⟩ : ∃ x, x = g * 4096 + 1 := ⟨_, rfl⟩
    rw [e0, ← hx]
    have hx9 : x < 18446744073709551616 := by omega
    have hodd := and_odd hx9 (by omega)
    have hsh : ((x : Int) / 4096) = (g : Int) := by omega
    have HSH := Lib.hid hsh
    have HG := Lib.hid hg
    have hX1 := (hb1.block _ hs0').trans hX0
    have d0 : w1.cell? ⟨w.heap.size, 0, none⟩ = some (.int .i64 ((num pg 4 : Nat) : Int)) := one_block hX1 0
    have d1 : w1.cell? ⟨w.heap.size, 1, none⟩ = some (.int .i64 ((num pg 3 : Nat) : Int)) := one_block hX1 1
    have d2 : w1.cell? ⟨w.heap.size, 2, none⟩ = some (.int .i64 ((num pg 2 : Nat) : Int)) := one_block hX1 2
    have d3 : w1.cell? ⟨w.heap.size, 3, none⟩ = some (.int .i64 ((num pg 1 : Nat) : Int)) := one_block hX1 3
    have hT1 : TabSelf w1 t c a root := (hb1.block t htw0).trans hT0
    clear hx e0 hsh hg hX1 hX0 c0 c1 c2 c3
    go_wp2_with fail
    rw [HSH.out]
    refine (descend_none1 t c a root g pg V w1 S p T (hP0.below hb1) hT1 (by omega) hw HN.out HG.out).mono ?_
    rintro e w2 ⟨rfl, hb2⟩
    go_wp2_with fail
    go_ret2
    exact ⟨rfl, hB0.trans ((hb1.trans (hb2.mono hz1)).mono (Nat.le_of_lt hs0'))⟩



set_option maxRecDepth 100000 in
set_option maxHeartbeats 1000000 in
theorem descend_none3 (t c a root f pg : Nat) (V : Value) (w : World) (S : Nat → Prop) (p : Pool) (T : Tab) (h : PoolAt w S a p) (ht : TabSelf w t c a root) (htw : t < w.heap.size) (hw : Way p T pg) (hno : T.lf pg = none)
    (hf : T.nd 3 (part pg 3) = some f) :
    Calls Tryz.prog 87 #[.pointer (some ⟨t, 0, none⟩), .int .i64 (f : Int), wayA pg, .int .i64 1, V] w fun e w' => e = .returned (.tuple #[.bool false, .bool false]) ∧ Below w.heap.size w w' := by
  obtain ⟨f1, f2, f3⟩ := hw.node 3 f (by omega) (by omega) hf
  have hB0 : Below w.heap.size w (w.alloc (.cells #[.int .i64 ((num pg 4 : Nat) : Int), .int .i64 ((num pg 3 : Nat) : Int), .int .i64 ((num pg 2 : Nat) : Int), .int .i64 ((num pg 1 : Nat) : Int)] 144)) := (Below.refl _ _).alloc (Nat.le_refl _) _
  have hP0 := h.below hB0
  have hT0 : TabSelf (w.alloc (.cells #[.int .i64 ((num pg 4 : Nat) : Int), .int .i64 ((num pg 3 : Nat) : Int), .int .i64 ((num pg 2 : Nat) : Int), .int .i64 ((num pg 1 : Nat) : Int)] 144)) t c a root := (hB0.block t htw).trans ht
  have hX0 := heap_alloc_new w (.cells #[.int .i64 ((num pg 4 : Nat) : Int), .int .i64 ((num pg 3 : Nat) : Int), .int .i64 ((num pg 2 : Nat) : Int), .int .i64 ((num pg 1 : Nat) : Int)] 144)
  have hn := num_lt pg 3
  have HF3 := Lib.hid f3
  have HN := Lib.hid hno
  have HF := Lib.hid hf
  clear f3 hno hf
  unfold wayA
  go_enter Tryz.func87, Tryz.ntmps87
  go_upto_region 1 with (fail)
  generalize hw0 : w.alloc (.cells #[.int .i64 ((num pg 4 : Nat) : Int), .int .i64 ((num pg 3 : Nat) : Int), .int .i64 ((num pg 2 : Nat) : Int), .int .i64 ((num pg 1 : Nat) : Int)] 144) = w0 at *
  have hs0 : w0.heap.size = w.heap.size + 1 := by rw [← hw0]; simp
  have hs0' : w.heap.size < w0.heap.size := by omega
  have htw0 : t < w0.heap.size := by omega
  clear hw0 hs0 h ht
  have c0 : w0.cell? ⟨w.heap.size, 0, none⟩ = some (.int .i64 ((num pg 4 : Nat) : Int)) := one_block hX0 0
  have c1 : w0.cell? ⟨w.heap.size, 1, none⟩ = some (.int .i64 ((num pg 3 : Nat) : Int)) := one_block hX0 1
  have c2 : w0.cell? ⟨w.heap.size, 2, none⟩ = some (.int .i64 ((num pg 2 : Nat) : Int)) := one_block hX0 2
  have c3 : w0.cell? ⟨w.heap.size, 3, none⟩ = some (.int .i64 ((num pg 1 : Nat) : Int)) := one_block hX0 3
  go_wp2_with fail
  refine (tword_any t c a root f (num pg 3) w0 S p hP0 hT0 f1 f2 hn).mono ?_
  rintro e w1 ⟨rfl, hb1⟩
  have hz1 := hb1.size
  have hz := and_none
  cases hg : T.nd 2 (part pg 2) with
  | none =>
    have e0 : word (p.dat f) (num pg 3) = 0 := by (rw [HF3.out, Tab.on_more _ _ _ (by omega)]; show (match T.nd 2 (part pg 2) with | some f => f * 4096 + 1 | none => 0) = 0; rw [hg])
    clear hg
    rw [e0]
    go_wp2_with fail
    go_ret2
    exact ⟨rfl, hB0.trans (hb1.mono (Nat.le_of_lt hs0'))⟩
  | some g =>
    have e0 : word (p.dat f) (num pg 3) = g * 4096 + 1 := by (rw [HF3.out, Tab.on_more _ _ _ (by omega)]; show (match T.nd 2 (part pg 2) with | some f => f * 4096 + 1 | none => 0) = _; rw [hg])
    obtain ⟨g1, g2, _⟩ := hw.node 2 g (by omega) (by omega) hg
    have hfew := hw.few
    obtain ⟨x, hx⟩ : ∃ x, x = g * 4096 + 1 := ⟨_, rfl⟩
    rw [e0, ← hx]
    have hx9 : x < 18446744073709551616 := by omega
    have hodd := and_odd hx9 (by omega)
    have hsh : ((x : Int) / 4096) = (g : Int) := by omega
    have HSH := Lib.hid hsh
    have HG := Lib.hid hg
    have hX1 := (hb1.block _ hs0').trans hX0
    have d0 : w1.cell? ⟨w.heap.size, 0, none⟩ = some (.int .i64 ((num pg 4 : Nat) : Int)) := one_block hX1 0
    have d1 : w1.cell? ⟨w.heap.size, 1, none⟩ = some (.int .i64 ((num pg 3 : Nat) : Int)) := one_block hX1 1
    have d2 : w1.cell? ⟨w.heap.size, 2, none⟩ = some (.int .i64 ((num pg 2 : Nat) : Int)) := one_block hX1 2
    have d3 : w1.cell? ⟨w.heap.size, 3, none⟩ = some (.int .i64 ((num pg 1 : Nat) : Int)) := one_block hX1 3
    have hT1 : TabSelf w1 t c a root := (hb1.block t htw0).trans hT0
    clear hx e0 hsh hg hX1 hX0 c0 c1 c2 c3
    go_wp2_with fail
    rw [HSH.out]
    refine (descend_none2 t c a root g pg V w1 S p T (hP0.below hb1) hT1 (by omega) hw HN.out HG.out).mono ?_
    rintro e w2 ⟨rfl, hb2⟩
    go_wp2_with fail
    go_ret2
    exact ⟨rfl, hB0.trans ((hb1.trans (hb2.mono hz1)).mono (Nat.le_of_lt hs0'))⟩



set_option maxRecDepth 100000 in
set_option maxHeartbeats 1000000 in
theorem descend_none4 (t c a root f pg : Nat) (V : Value) (w : World) (S : Nat → Prop) (p : Pool) (T : Tab) (h : PoolAt w S a p) (ht : TabSelf w t c a root) (htw : t < w.heap.size) (hw : Way p T pg) (hno : T.lf pg = none)
    (hf : T.nd 4 (part pg 4) = some f) :
    Calls Tryz.prog 87 #[.pointer (some ⟨t, 0, none⟩), .int .i64 (f : Int), wayA pg, .int .i64 0, V] w fun e w' => e = .returned (.tuple #[.bool false, .bool false]) ∧ Below w.heap.size w w' := by
  obtain ⟨f1, f2, f3⟩ := hw.node 4 f (by omega) (by omega) hf
  have hB0 : Below w.heap.size w (w.alloc (.cells #[.int .i64 ((num pg 4 : Nat) : Int), .int .i64 ((num pg 3 : Nat) : Int), .int .i64 ((num pg 2 : Nat) : Int), .int .i64 ((num pg 1 : Nat) : Int)] 144)) := (Below.refl _ _).alloc (Nat.le_refl _) _
  have hP0 := h.below hB0
  have hT0 : TabSelf (w.alloc (.cells #[.int .i64 ((num pg 4 : Nat) : Int), .int .i64 ((num pg 3 : Nat) : Int), .int .i64 ((num pg 2 : Nat) : Int), .int .i64 ((num pg 1 : Nat) : Int)] 144)) t c a root := (hB0.block t htw).trans ht
  have hX0 := heap_alloc_new w (.cells #[.int .i64 ((num pg 4 : Nat) : Int), .int .i64 ((num pg 3 : Nat) : Int), .int .i64 ((num pg 2 : Nat) : Int), .int .i64 ((num pg 1 : Nat) : Int)] 144)
  have hn := num_lt pg 4
  have HF3 := Lib.hid f3
  have HN := Lib.hid hno
  have HF := Lib.hid hf
  clear f3 hno hf
  unfold wayA
  go_enter Tryz.func87, Tryz.ntmps87
  go_upto_region 1 with (fail)
  generalize hw0 : w.alloc (.cells #[.int .i64 ((num pg 4 : Nat) : Int), .int .i64 ((num pg 3 : Nat) : Int), .int .i64 ((num pg 2 : Nat) : Int), .int .i64 ((num pg 1 : Nat) : Int)] 144) = w0 at *
  have hs0 : w0.heap.size = w.heap.size + 1 := by rw [← hw0]; simp
  have hs0' : w.heap.size < w0.heap.size := by omega
  have htw0 : t < w0.heap.size := by omega
  clear hw0 hs0 h ht
  have c0 : w0.cell? ⟨w.heap.size, 0, none⟩ = some (.int .i64 ((num pg 4 : Nat) : Int)) := one_block hX0 0
  have c1 : w0.cell? ⟨w.heap.size, 1, none⟩ = some (.int .i64 ((num pg 3 : Nat) : Int)) := one_block hX0 1
  have c2 : w0.cell? ⟨w.heap.size, 2, none⟩ = some (.int .i64 ((num pg 2 : Nat) : Int)) := one_block hX0 2
  have c3 : w0.cell? ⟨w.heap.size, 3, none⟩ = some (.int .i64 ((num pg 1 : Nat) : Int)) := one_block hX0 3
  go_wp2_with fail
  refine (tword_any t c a root f (num pg 4) w0 S p hP0 hT0 f1 f2 hn).mono ?_
  rintro e w1 ⟨rfl, hb1⟩
  have hz1 := hb1.size
  have hz := and_none
  cases hg : T.nd 3 (part pg 3) with
  | none =>
    have e0 : word (p.dat f) (num pg 4) = 0 := by (rw [HF3.out, Tab.on_more _ _ _ (by omega)]; show (match T.nd 3 (part pg 3) with | some f => f * 4096 + 1 | none => 0) = 0; rw [hg])
    clear hg
    rw [e0]
    go_wp2_with fail
    go_ret2
    exact ⟨rfl, hB0.trans (hb1.mono (Nat.le_of_lt hs0'))⟩
  | some g =>
    have e0 : word (p.dat f) (num pg 4) = g * 4096 + 1 := by (rw [HF3.out, Tab.on_more _ _ _ (by omega)]; show (match T.nd 3 (part pg 3) with | some f => f * 4096 + 1 | none => 0) = _; rw [hg])
    obtain ⟨g1, g2, _⟩ := hw.node 3 g (by omega) (by omega) hg
    have hfew := hw.few
    obtain ⟨x, hx⟩ : ∃ x, x = g * 4096 + 1 := ⟨_, rfl⟩
    rw [e0, ← hx]
    have hx9 : x < 18446744073709551616 := by omega
    have hodd := and_odd hx9 (by omega)
    have hsh : ((x : Int) / 4096) = (g : Int) := by omega
    have HSH := Lib.hid hsh
    have HG := Lib.hid hg
    have hX1 := (hb1.block _ hs0').trans hX0
    have d0 : w1.cell? ⟨w.heap.size, 0, none⟩ = some (.int .i64 ((num pg 4 : Nat) : Int)) := one_block hX1 0
    have d1 : w1.cell? ⟨w.heap.size, 1, none⟩ = some (.int .i64 ((num pg 3 : Nat) : Int)) := one_block hX1 1
    have d2 : w1.cell? ⟨w.heap.size, 2, none⟩ = some (.int .i64 ((num pg 2 : Nat) : Int)) := one_block hX1 2
    have d3 : w1.cell? ⟨w.heap.size, 3, none⟩ = some (.int .i64 ((num pg 1 : Nat) : Int)) := one_block hX1 3
    have hT1 : TabSelf w1 t c a root := (hb1.block t htw0).trans hT0
    clear hx e0 hsh hg hX1 hX0 c0 c1 c2 c3
    go_wp2_with fail
    rw [HSH.out]
    refine (descend_none3 t c a root g pg V w1 S p T (hP0.below hb1) hT1 (by omega) hw HN.out HG.out).mono ?_
    rintro e w2 ⟨rfl, hb2⟩
    go_wp2_with fail
    go_ret2
    exact ⟨rfl, hB0.trans ((hb1.trans (hb2.mono hz1)).mono (Nat.le_of_lt hs0'))⟩



end Go.Proofs.YtmkgdgfbdmjeeaaGreatDoor
