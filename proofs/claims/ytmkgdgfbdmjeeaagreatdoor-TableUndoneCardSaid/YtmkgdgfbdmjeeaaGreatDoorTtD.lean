/- Tables: descend, where a leaf lies and what is called there answers false. -/
import Derived.Test.YtmkgdgfbdmjeeaaGreatDoorTtC
namespace Go.Proofs.YtmkgdgfbdmjeeaaGreatDoor
open Go.RowKit
set_option linter.unusedSimpArgs false
set_option linter.unusedVariables false

set_option maxRecDepth 100000 in
set_option maxHeartbeats 1000000 in
theorem descend_map1 (t c a root f pg : Nat) (R : World → World → Prop)(w : World) (S : Nat → Prop) (p : Pool) (T : Tab) (h : PoolAt w S a p) (ht : TabSelf w t c a root) (htw : t < w.heap.size) (hw : Way p T pg) (hups : ∀ m, 1 ≤ m → m ≤ 4 → (T.nd m (part pg m)).isSome = true) (l : Leaf) (q1 : Nat) (hlf : T.lf pg = some l) (hf1 : T.nd 1 (part pg 1) = some q1)
    (hcl : ∀ w1, Below w.heap.size w w1 → Calls Tryz.prog 88 (#[.int .i64 (q1 : Int), .int .i64 ((num pg 1 : Nat) : Int)] ++ #[]) w1 fun e w2 => e = .returned (.bool false) ∧ R w1 w2)
    (hf : T.nd 1 (part pg 1) = some f) :
    Calls Tryz.prog 87 #[.pointer (some ⟨t, 0, none⟩), .int .i64 (f : Int), wayA pg, .int .i64 3, (.func (.func 88) #[] #[])] w fun e w' => e = .returned (.tuple #[.bool true, .bool false]) ∧ ∃ w1, Below w.heap.size w w1 ∧ R w1 w' := by
  obtain ⟨f1, f2, f3⟩ := hw.node 1 f (by omega) (by omega) hf
  have hB0 : Below w.heap.size w (w.alloc (.cells #[.int .i64 ((num pg 4 : Nat) : Int), .int .i64 ((num pg 3 : Nat) : Int), .int .i64 ((num pg 2 : Nat) : Int), .int .i64 ((num pg 1 : Nat) : Int)] 144)) := (Below.refl _ _).alloc (Nat.le_refl _) _
  have hP0 := h.below hB0
  have hT0 : TabSelf (w.alloc (.cells #[.int .i64 ((num pg 4 : Nat) : Int), .int .i64 ((num pg 3 : Nat) : Int), .int .i64 ((num pg 2 : Nat) : Int), .int .i64 ((num pg 1 : Nat) : Int)] 144)) t c a root := (hB0.block t htw).trans ht
  have hX0 := heap_alloc_new w (.cells #[.int .i64 ((num pg 4 : Nat) : Int), .int .i64 ((num pg 3 : Nat) : Int), .int .i64 ((num pg 2 : Nat) : Int), .int .i64 ((num pg 1 : Nat) : Int)] 144)
  have hn := num_lt pg 1
  have HF3 := Lib.hid f3
  have HL := Lib.hid hlf
  have HF1 := Lib.hid hf1
  have HCL := Lib.hid hcl
  clear hlf hf1 hcl
  have HF := Lib.hid hf
  clear f3 hf
  unfold wayA
  go_enter Tryz.func87, Tryz.ntmps87
  go_upto_region 1 with (fail)
  generalize hw0 : w.alloc (.cells #[.int .i64 ((num pg 4 : Nat) : Int), .int .i64 ((num pg 3 : Nat) : Int), .int .i64 ((num pg 2 : Nat) : Int), .int .i64 ((num pg 1 : Nat) : Int)] 144) = w0 at *
  have hs0 : w0.heap.size = w.heap.size + 1 := by rw [← hw0]; simp
  have hs0' : w.heap.size < w0.heap.size := by omega
  have htw0 : t < w0.heap.size := by omega
  clear hw0 hs0 h ht
  have c0 : w0.cell? ⟨w.heap.size, 0, none⟩ = some (.int .i64 ((num pg 4 : Nat) : Int)) := one_block hX0 0
  have c1 : w0.cell? ⟨w.heap.size, 1, none⟩ = some (.int .i64 ((num pg 3 : Nat) : Int)) := one_block hX0 1
  have c2 : w0.cell? ⟨w.heap.size, 2, none⟩ = some (.int .i64 ((num pg 2 : Nat) : Int)) := one_block hX0 2
  have c3 : w0.cell? ⟨w.heap.size, 3, none⟩ = some (.int .i64 ((num pg 1 : Nat) : Int)) := one_block hX0 3
  go_wp2_with fail
  refine (tword_any t c a root f (num pg 1) w0 S p hP0 hT0 f1 f2 hn).mono ?_
  rintro e w1 ⟨rfl, hb1⟩
  have hz1 := hb1.size
  have e0 : word (p.dat f) (num pg 1) = l.pack := by (rw [HF3.out, Tab.on_one, HL.out])
  obtain rfl : f = q1 := by (have e9 := HF.out; rw [HF1.out] at e9; injection e9 with e9; exact e9.symm)
  obtain ⟨x, hx⟩ : ∃ x, x = l.pack := ⟨_, rfl⟩
  rw [e0, ← hx]
  have hl7 := hw.prot l HL.out
  have hfew := hw.few
  have hx9 : x < 18446744073709551616 := by (rw [hx]; have := pack_lt l hl7.1 (by omega); omega)
  have hodd := and_odd hx9 (by rw [hx]; exact pack_odd l)
  clear hx e0
  go_wp2_with fail
  refine (HCL.out w1 (hB0.trans (hb1.mono (Nat.le_of_lt hs0')))).mono ?_
  rintro e w2 ⟨rfl, hR⟩
  go_wp2_with fail
  go_ret2
  exact ⟨rfl, w1, hB0.trans (hb1.mono (Nat.le_of_lt hs0')), hR⟩


set_option maxRecDepth 100000 in
set_option maxHeartbeats 1000000 in
theorem descend_map2 (t c a root f pg : Nat) (R : World → World → Prop)(w : World) (S : Nat → Prop) (p : Pool) (T : Tab) (h : PoolAt w S a p) (ht : TabSelf w t c a root) (htw : t < w.heap.size) (hw : Way p T pg) (hups : ∀ m, 1 ≤ m → m ≤ 4 → (T.nd m (part pg m)).isSome = true) (l : Leaf) (q1 : Nat) (hlf : T.lf pg = some l) (hf1 : T.nd 1 (part pg 1) = some q1)
    (hcl : ∀ w1, Below w.heap.size w w1 → Calls Tryz.prog 88 (#[.int .i64 (q1 : Int), .int .i64 ((num pg 1 : Nat) : Int)] ++ #[]) w1 fun e w2 => e = .returned (.bool false) ∧ R w1 w2)
    (hf : T.nd 2 (part pg 2) = some f) :
    Calls Tryz.prog 87 #[.pointer (some ⟨t, 0, none⟩), .int .i64 (f : Int), wayA pg, .int .i64 2, (.func (.func 88) #[] #[])] w fun e w' => e = .returned (.tuple #[.bool true, .bool false]) ∧ ∃ w1, Below w.heap.size w w1 ∧ R w1 w' := by
  obtain ⟨f1, f2, f3⟩ := hw.node 2 f (by omega) (by omega) hf
  have hB0 : Below w.heap.size w (w.alloc (.cells #[.int .i64 ((num pg 4 : Nat) : Int), .int .i64 ((num pg 3 : Nat) : Int), .int .i64 ((num pg 2 : Nat) : Int), .int .i64 ((num pg 1 : Nat) : Int)] 144)) := (Below.refl _ _).alloc (Nat.le_refl _) _
  have hP0 := h.below hB0
  have hT0 : TabSelf (w.alloc (.cells #[.int .i64 ((num pg 4 : Nat) : Int), .int .i64 ((num pg 3 : Nat) : Int), .int .i64 ((num pg 2 : Nat) : Int), .int .i64 ((num pg 1 : Nat) : Int)] 144)) t c a root := (hB0.block t htw).trans ht
  have hX0 := heap_alloc_new w (.cells #[.int .i64 ((num pg 4 : Nat) : Int), .int .i64 ((num pg 3 : Nat) : Int), .int .i64 ((num pg 2 : Nat) : Int), .int .i64 ((num pg 1 : Nat) : Int)] 144)
  have hn := num_lt pg 2
  have HF3 := Lib.hid f3
  have HL := Lib.hid hlf
  have HF1 := Lib.hid hf1
  have HCL := Lib.hid hcl
  clear hlf hf1 hcl
  have HF := Lib.hid hf
  clear f3 hf
  unfold wayA
  go_enter Tryz.func87, Tryz.ntmps87
  go_upto_region 1 with (fail)
  generalize hw0 : w.alloc (.cells #[.int .i64 ((num pg 4 : Nat) : Int), .int .i64 ((num pg 3 : Nat) : Int), .int .i64 ((num pg 2 : Nat) : Int), .int .i64 ((num pg 1 : Nat) : Int)] 144) = w0 at *
  have hs0 : w0.heap.size = w.heap.size + 1 := by rw [← hw0]; simp
  have hs0' : w.heap.size < w0.heap.size := by omega
  have htw0 : t < w0.heap.size := by omega
  clear hw0 hs0 h ht
  have c0 : w0.cell? ⟨w.heap.size, 0, none⟩ = some (.int .i64 ((num pg 4 : Nat) : Int)) := one_block hX0 0
  have c1 : w0.cell? ⟨w.heap.size, 1, none⟩ = some (.int .i64 ((num pg 3 : Nat) : Int)) := one_block hX0 1
  have c2 : w0.cell? ⟨w.heap.size, 2, none⟩ = some (.int .i64 ((num pg 2 : Nat) : Int)) := one_block hX0 2
  have c3 : w0.cell? ⟨w.heap.size, 3, none⟩ = some (.int .i64 ((num pg 1 : Nat) : Int)) := one_block hX0 3
  go_wp2_with fail
  refine (tword_any t c a root f (num pg 2) w0 S p hP0 hT0 f1 f2 hn).mono ?_
  rintro e w1 ⟨rfl, hb1⟩
  have hz1 := hb1.size
  have hsome : ∃ g, T.nd 1 (part pg 1) = some g := isSome_of (hups 1 (by omega) (by omega))
  obtain ⟨g, hg⟩ := hsome
  have e0 : word (p.dat f) (num pg 2) = g * 4096 + 1 := by (rw [HF3.out, Tab.on_more _ _ _ (by omega)]; show (match T.nd 1 (part pg 1) with | some f => f * 4096 + 1 | none => 0) = _; rw [hg])
  obtain ⟨g1, g2, _⟩ := hw.node 1 g (by omega) (by omega) hg
  have hfew := hw.few
  obtain ⟨x, hx⟩ : ∃ x, x = g * 4096 + 1 := ⟨_, rfl⟩
  rw [e0, ← hx]
  have hx9 : x < 18446744073709551616 := by omega
  have hodd := and_odd hx9 (by omega)
  have hsh : ((x : Int) / 4096) = (g : Int) := by omega
  have HSH := Lib.hid hsh
  have HG := Lib.hid hg
  have hX1 := (hb1.block _ hs0').trans hX0
  have d0 : w1.cell? ⟨w.heap.size, 0, none⟩ = some (.int .i64 ((num pg 4 : Nat) : Int)) := one_block hX1 0
  have d1 : w1.cell? ⟨w.heap.size, 1, none⟩ = some (.int .i64 ((num pg 3 : Nat) : Int)) := one_block hX1 1
  have d2 : w1.cell? ⟨w.heap.size, 2, none⟩ = some (.int .i64 ((num pg 2 : Nat) : Int)) := one_block hX1 2
  have d3 : w1.cell? ⟨w.heap.size, 3, none⟩ = some (.int .i64 ((num pg 1 : Nat) : Int)) := one_block hX1 3
  have hT1 : TabSelf w1 t c a root := (hb1.block t htw0).trans hT0
  clear hx e0 hsh hg hX1 hX0 c0 c1 c2 c3
  go_wp2_with fail
  rw [HSH.out]
  refine (descend_map1 t c a root g pg  R w1 S p T (hP0.below hb1) hT1 (by omega) hw hups l q1 HL.out HF1.out (fun w5 hw5 => HCL.out w5 (hB0.trans ((hb1.trans (hw5.mono hz1)).mono (Nat.le_of_lt hs0')))) HG.out).mono ?_
  rintro e w2 ⟨rfl, w5, hb2, hR⟩
  go_wp2_with fail
  go_ret2
  exact ⟨rfl, w5, hB0.trans ((hb1.trans (hb2.mono hz1)).mono (Nat.le_of_lt hs0')), hR⟩



set_option maxRecDepth 100000 in
set_option maxHeartbeats 1000000 in
theorem descend_map3 (t c a root f pg : Nat) (R : World → World → Prop)(w : World) (S : Nat → Prop) (p : Pool) (T : Tab) (h : PoolAt w S a p) (ht : TabSelf w t c a root) (htw : t < w.heap.size) (hw : Way p T pg) (hups : ∀ m, 1 ≤ m → m ≤ 4 → (T.nd m (part pg m)).isSome = true) (l : Leaf) (q1 : Nat) (hlf : T.lf pg = some l) (hf1 : T.nd 1 (part pg 1) = some q1)
    (hcl : ∀ w1, Below w.heap.size w w1 → Calls Tryz.prog 88 (#[.int .i64 (q1 : Int), .int .i64 ((num pg 1 : Nat) : Int)] ++ #[]) w1 fun e w2 => e = .returned (.bool false) ∧ R w1 w2)
    (hf : T.nd 3 (part pg 3) = some f) :
    Calls Tryz.prog 87 #[.pointer (some ⟨t, 0, none⟩), .int .i64 (f : Int), wayA pg, .int .i64 1, (.func (.func 88) #[] #[])] w fun e w' => e = .returned (.tuple #[.bool true, .bool false]) ∧ ∃ w1, Below w.heap.size w w1 ∧ R w1 w' := by
  obtain ⟨f1, f2, f3⟩ := hw.node 3 f (by omega) (by omega) hf
  have hB0 : Below w.heap.size w (w.alloc (.cells #[.int .i64 ((num pg 4 : Nat) : Int), .int .i64 ((num pg 3 : Nat) : Int), .int .i64 ((num pg 2 : Nat) : Int), .int .i64 ((num pg 1 : Nat) : Int)] 144)) := (Below.refl _ _).alloc (Nat.le_refl _) _
  have hP0 := h.below hB0
  have hT0 : TabSelf (w.alloc (.cells #[.int .i64 ((num pg 4 : Nat) : Int), .int .i64 ((num pg 3 : Nat) : Int), .int .i64 ((num pg 2 : Nat) : Int), .int .i64 ((num pg 1 : Nat) : Int)] 144)) t c a root := (hB0.block t htw).trans ht
  have hX0 := heap_alloc_new w (.cells #[.int .i64 ((num pg 4 : Nat) : Int), .int .i64 ((num pg 3 : Nat) : Int), .int .i64 ((num pg 2 : Nat) : Int), .int .i64 ((num pg 1 : Nat) : Int)] 144)
  have hn := num_lt pg 3
  have HF3 := Lib.hid f3
  have HL := Lib.hid hlf
  have HF1 := Lib.hid hf1
  have HCL := Lib.hid hcl
  clear hlf hf1 hcl
  have HF := Lib.hid hf
  clear f3 hf
  unfold wayA
  go_enter Tryz.func87, Tryz.ntmps87
  go_upto_region 1 with (fail)
  generalize hw0 : w.alloc (.cells #[.int .i64 ((num pg 4 : Nat) : Int), .int .i64 ((num pg 3 : Nat) : Int), .int .i64 ((num pg 2 : Nat) : Int), .int .i64 ((num pg 1 : Nat) : Int)] 144) = w0 at *
  have hs0 : w0.heap.size = w.heap.size + 1 := by rw [← hw0]; simp
  have hs0' : w.heap.size < w0.heap.size := by omega
  have htw0 : t < w0.heap.size := by omega
  clear hw0 hs0 h ht
  have c0 : w0.cell? ⟨w.heap.size, 0, none⟩ = some (.int .i64 ((num pg 4 : Nat) : Int)) := one_block hX0 0
  have c1 : w0.cell? ⟨w.heap.size, 1, none⟩ = some (.int .i64 ((num pg 3 : Nat) : Int)) := one_block hX0 1
  have c2 : w0.cell? ⟨w.heap.size, 2, none⟩ = some (.int .i64 ((num pg 2 : Nat) : Int)) := one_block hX0 2
  have c3 : w0.cell? ⟨w.heap.size, 3, none⟩ = some (.int .i64 ((num pg 1 : Nat) : Int)) := one_block hX0 3
  go_wp2_with fail
  refine (tword_any t c a root f (num pg 3) w0 S p hP0 hT0 f1 f2 hn).mono ?_
  rintro e w1 ⟨rfl, hb1⟩
  have hz1 := hb1.size
  have hsome : ∃ g, T.nd 2 (part pg 2) = some g := isSome_of (hups 2 (by omega) (by omega))
  obtain ⟨g, hg⟩ := hsome
  have e0 : word (p.dat f) (num pg 3) = g * 4096 + 1 := by (rw [HF3.out, Tab.on_more _ _ _ (by omega)]; show (match T.nd 2 (part pg 2) with | some f => f * 4096 + 1 | none => 0) = _; rw [hg])
  obtain ⟨g1, g2, _⟩ := hw.node 2 g (by omega) (by omega) hg
  have hfew := hw.few
  obtain ⟨x, hx⟩ : ∃ x, x = g * 4096 + 1 := ⟨_, rfl⟩
  rw [e0, ← hx]
  have hx9 : x < 18446744073709551616 := by omega
  have hodd := and_odd hx9 (by omega)
  have hsh : ((x : Int) / 4096) = (g : Int) := by omega
  have HSH := Lib.hid hsh
  have HG := Lib.hid hg
  have hX1 := (hb1.block _ hs0').trans hX0
  have d0 : w1.cell? ⟨w.heap.size, 0, none⟩ = some (.int .i64 ((num pg 4 : Nat) : Int)) := one_block hX1 0
  have d1 : w1.cell? ⟨w.heap.size, 1, none⟩ = some (.int .i64 ((num pg 3 : Nat) : Int)) := one_block hX1 1
  have d2 : w1.cell? ⟨w.heap.size, 2, none⟩ = some (.int .i64 ((num pg 2 : Nat) : Int)) := one_block hX1 2
  have d3 : w1.cell? ⟨w.heap.size, 3, none⟩ = some (.int .i64 ((num pg 1 : Nat) : Int)) := one_block hX1 3
  have hT1 : TabSelf w1 t c a root := (hb1.block t htw0).trans hT0
  clear hx e0 hsh hg hX1 hX0 c0 c1 c2 c3
  go_wp2_with fail
  rw [HSH.out]
  refine (descend_map2 t c a root g pg  R w1 S p T (hP0.below hb1) hT1 (by omega) hw hups l q1 HL.out HF1.out (fun w5 hw5 => HCL.out w5 (hB0.trans ((hb1.trans (hw5.mono hz1)).mono (Nat.le_of_lt hs0')))) HG.out).mono ?_
  rintro e w2 ⟨rfl, w5, hb2, hR⟩
  go_wp2_with fail
  go_ret2
  exact ⟨rfl, w5, hB0.trans ((hb1.trans (hb2.mono hz1)).mono (Nat.le_of_lt hs0')), hR⟩



set_option maxRecDepth 100000 in
set_option maxHeartbeats 1000000 in
theorem descend_map4 (t c a root f pg : Nat) (R : World → World → Prop)(w : World) (S : Nat → Prop) (p : Pool) (T : Tab) (h : PoolAt w S a p) (ht : TabSelf w t c a root) (htw : t < w.heap.size) (hw : Way p T pg) (hups : ∀ m, 1 ≤ m → m ≤ 4 → (T.nd m (part pg m)).isSome = true) (l : Leaf) (q1 : Nat) (hlf : T.lf pg = some l) (hf1 : T.nd 1 (part pg 1) = some q1)
    (hcl : ∀ w1, Below w.heap.size w w1 → Calls Tryz.prog 88 (#[.int .i64 (q1 : Int), .int .i64 ((num pg 1 : Nat) : Int)] ++ #[]) w1 fun e w2 => e = .returned (.bool false) ∧ R w1 w2)
    (hf : T.nd 4 (part pg 4) = some f) :
    Calls Tryz.prog 87 #[.pointer (some ⟨t, 0, none⟩), .int .i64 (f : Int), wayA pg, .int .i64 0, (.func (.func 88) #[] #[])] w fun e w' => e = .returned (.tuple #[.bool true, .bool false]) ∧ ∃ w1, Below w.heap.size w w1 ∧ R w1 w' := by
  obtain ⟨f1, f2, f3⟩ := hw.node 4 f (by omega) (by omega) hf
  have hB0 : Below w.heap.size w (w.alloc (.cells #[.int .i64 ((num pg 4 : Nat) : Int), .int .i64 ((num pg 3 : Nat) : Int), .int .i64 ((num pg 2 : Nat) : Int), .int .i64 ((num pg 1 : Nat) : Int)] 144)) := (Below.refl _ _).alloc (Nat.le_refl _) _
  have hP0 := h.below hB0
  have hT0 : TabSelf (w.alloc (.cells #[.int .i64 ((num pg 4 : Nat) : Int), .int .i64 ((num pg 3 : Nat) : Int), .int .i64 ((num pg 2 : Nat) : Int), .int .i64 ((num pg 1 : Nat) : Int)] 144)) t c a root := (hB0.block t htw).trans ht
  have hX0 := heap_alloc_new w (.cells #[.int .i64 ((num pg 4 : Nat) : Int), .int .i64 ((num pg 3 : Nat) : Int), .int .i64 ((num pg 2 : Nat) : Int), .int .i64 ((num pg 1 : Nat) : Int)] 144)
  have hn := num_lt pg 4
  have HF3 := Lib.hid f3
  have HL := Lib.hid hlf
  have HF1 := Lib.hid hf1
  have HCL := Lib.hid hcl
  clear hlf hf1 hcl
  have HF := Lib.hid hf
  clear f3 hf
  unfold wayA
  go_enter Tryz.func87, Tryz.ntmps87
  go_upto_region 1 with (fail)
  generalize hw0 : w.alloc (.cells #[.int .i64 ((num pg 4 : Nat) : Int), .int .i64 ((num pg 3 : Nat) : Int), .int .i64 ((num pg 2 : Nat) : Int), .int .i64 ((num pg 1 : Nat) : Int)] 144) = w0 at *
  have hs0 : w0.heap.size = w.heap.size + 1 := by rw [← hw0]; simp
  have hs0' : w.heap.size < w0.heap.size := by omega
  have htw0 : t < w0.heap.size := by omega
  clear hw0 hs0 h ht
  have c0 : w0.cell? ⟨w.heap.size, 0, none⟩ = some (.int .i64 ((num pg 4 : Nat) : Int)) := one_block hX0 0
  have c1 : w0.cell? ⟨w.heap.size, 1, none⟩ = some (.int .i64 ((num pg 3 : Nat) : Int)) := one_block hX0 1
  have c2 : w0.cell? ⟨w.heap.size, 2, none⟩ = some (.int .i64 ((num pg 2 : Nat) : Int)) := one_block hX0 2
  have c3 : w0.cell? ⟨w.heap.size, 3, none⟩ = some (.int .i64 ((num pg 1 : Nat) : Int)) := one_block hX0 3
  go_wp2_with fail
  refine (tword_any t c a root f (num pg 4) w0 S p hP0 hT0 f1 f2 hn).mono ?_
  rintro e w1 ⟨rfl, hb1⟩
  have hz1 := hb1.size
  have hsome : ∃ g, T.nd 3 (part pg 3) = some g := isSome_of (hups 3 (by omega) (by omega))
  obtain ⟨g, hg⟩ := hsome
  have e0 : word (p.dat f) (num pg 4) = g * 4096 + 1 := by (rw [HF3.out, Tab.on_more _ _ _ (by omega)]; show (match T.nd 3 (part pg 3) with | some f => f * 4096 + 1 | none => 0) = _; rw [hg])
  obtain ⟨g1, g2, _⟩ := hw.node 3 g (by omega) (by omega) hg
  have hfew := hw.few
  obtain ⟨x, hx⟩ : ∃ x, x = g * 4096 + 1 := ⟨_, rfl⟩
  rw [e0, ← hx]
  have hx9 : x < 18446744073709551616 := by omega
  have hodd := and_odd hx9 (by omega)
  have hsh : ((x : Int) / 4096) = (g : Int) := by omega
  have HSH := Lib.hid hsh
  have HG := Lib.hid hg
  have hX1 := (hb1.block _ hs0').trans hX0
  have d0 : w1.cell? ⟨w.heap.size, 0, none⟩ = some (.int .i64 ((num pg 4 : Nat) : Int)) := one_block hX1 0
  have d1 : w1.cell? ⟨w.heap.size, 1, none⟩ = some (.int .i64 ((num pg 3 : Nat) : Int)) := one_block hX1 1
  have d2 : w1.cell? ⟨w.heap.size, 2, none⟩ = some (.int .i64 ((num pg 2 : Nat) : Int)) := one_block hX1 2
  have d3 : w1.cell? ⟨w.heap.size, 3, none⟩ = some (.int .i64 ((num pg 1 : Nat) : Int)) := one_block hX1 3
  have hT1 : TabSelf w1 t c a root := (hb1.block t htw0).trans hT0
  clear hx e0 hsh hg hX1 hX0 c0 c1 c2 c3
  go_wp2_with fail
  rw [HSH.out]
  refine (descend_map3 t c a root g pg  R w1 S p T (hP0.below hb1) hT1 (by omega) hw hups l q1 HL.out HF1.out (fun w5 hw5 => HCL.out w5 (hB0.trans ((hb1.trans (hw5.mono hz1)).mono (Nat.le_of_lt hs0')))) HG.out).mono ?_
  rintro e w2 ⟨rfl, w5, hb2, hR⟩
  go_wp2_with fail
  go_ret2
  exact ⟨rfl, w5, hB0.trans ((hb1.trans (hb2.mono hz1)).mono (Nat.le_of_lt hs0')), hR⟩



set_option maxRecDepth 100000 in
set_option maxHeartbeats 1000000 in
theorem descend_find1 (t c a root f pg : Nat) (bt bl : Nat)(R : World → World → Prop)(w : World) (S : Nat → Prop) (p : Pool) (T : Tab) (h : PoolAt w S a p) (ht : TabSelf w t c a root) (htw : t < w.heap.size) (hw : Way p T pg) (hups : ∀ m, 1 ≤ m → m ≤ 4 → (T.nd m (part pg m)).isSome = true) (l : Leaf) (q1 : Nat) (hlf : T.lf pg = some l) (hf1 : T.nd 1 (part pg 1) = some q1)
    (hcl : ∀ w1, Below w.heap.size w w1 → Calls Tryz.prog 93 (#[.int .i64 (q1 : Int), .int .i64 ((num pg 1 : Nat) : Int)] ++ #[.pointer (some ⟨bt, 0, none⟩), .pointer (some ⟨bl, 0, none⟩)]) w1 fun e w2 => e = .returned (.bool false) ∧ R w1 w2)
    (hf : T.nd 1 (part pg 1) = some f) :
    Calls Tryz.prog 87 #[.pointer (some ⟨t, 0, none⟩), .int .i64 (f : Int), wayA pg, .int .i64 3, (.func (.func 93) #[] #[.pointer (some ⟨bt, 0, none⟩), .pointer (some ⟨bl, 0, none⟩)])] w fun e w' => e = .returned (.tuple #[.bool true, .bool false]) ∧ ∃ w1, Below w.heap.size w w1 ∧ R w1 w' := by
  obtain ⟨f1, f2, f3⟩ := hw.node 1 f (by omega) (by omega) hf
  have hB0 : Below w.heap.size w (w.alloc (.cells #[.int .i64 ((num pg 4 : Nat) : Int), .int .i64 ((num pg 3 : Nat) : Int), .int .i64 ((num pg 2 : Nat) : Int), .int .i64 ((num pg 1 : Nat) : Int)] 144)) := (Below.refl _ _).alloc (Nat.le_refl _) _
  have hP0 := h.below hB0
  have hT0 : TabSelf (w.alloc (.cells #[.int .i64 ((num pg 4 : Nat) : Int), .int .i64 ((num pg 3 : Nat) : Int), .int .i64 ((num pg 2 : Nat) : Int), .int .i64 ((num pg 1 : Nat) : Int)] 144)) t c a root := (hB0.block t htw).trans ht
  have hX0 := heap_alloc_new w (.cells #[.int .i64 ((num pg 4 : Nat) : Int), .int .i64 ((num pg 3 : Nat) : Int), .int .i64 ((num pg 2 : Nat) : Int), .int .i64 ((num pg 1 : Nat) : Int)] 144)
  have hn := num_lt pg 1
  have HF3 := Lib.hid f3
  have HL := Lib.hid hlf
  have HF1 := Lib.hid hf1
  have HCL := Lib.hid hcl
  clear hlf hf1 hcl
  have HF := Lib.hid hf
  clear f3 hf
  unfold wayA
  go_enter Tryz.func87, Tryz.ntmps87
  go_upto_region 1 with (fail)
  generalize hw0 : w.alloc (.cells #[.int .i64 ((num pg 4 : Nat) : Int), .int .i64 ((num pg 3 : Nat) : Int), .int .i64 ((num pg 2 : Nat) : Int), .int .i64 ((num pg 1 : Nat) : Int)] 144) = w0 at *
  have hs0 : w0.heap.size = w.heap.size + 1 := by rw [← hw0]; simp
  have hs0' : w.heap.size < w0.heap.size := by omega
  have htw0 : t < w0.heap.size := by omega
  clear hw0 hs0 h ht
  have c0 : w0.cell? ⟨w.heap.size, 0, none⟩ = some (.int .i64 ((num pg 4 : Nat) : Int)) := one_block hX0 0
  have c1 : w0.cell? ⟨w.heap.size, 1, none⟩ = some (.int .i64 ((num pg 3 : Nat) : Int)) := one_block hX0 1
  have c2 : w0.cell? ⟨w.heap.size, 2, none⟩ = some (.int .i64 ((num pg 2 : Nat) : Int)) := one_block hX0 2
  have c3 : w0.cell? ⟨w.heap.size, 3, none⟩ = some (.int .i64 ((num pg 1 : Nat) : Int)) := one_block hX0 3
  go_wp2_with fail
  refine (tword_any t c a root f (num pg 1) w0 S p hP0 hT0 f1 f2 hn).mono ?_
  rintro e w1 ⟨rfl, hb1⟩
  have hz1 := hb1.size
  have e0 : word (p.dat f) (num pg 1) = l.pack := by (rw [HF3.out, Tab.on_one, HL.out])
  obtain rfl : f = q1 := by (have e9 := HF.out; rw [HF1.out] at e9; injection e9 with e9; exact e9.symm)
  obtain ⟨x, hx⟩ : ∃ x, x = l.pack := ⟨_, rfl⟩
  rw [e0, ← hx]
  have hl7 := hw.prot l HL.out
  have hfew := hw.few
  have hx9 : x < 18446744073709551616 := by (rw [hx]; have := pack_lt l hl7.1 (by omega); omega)
  have hodd := and_odd hx9 (by rw [hx]; exact pack_odd l)
  clear hx e0
  go_wp2_with fail
  refine (HCL.out w1 (hB0.trans (hb1.mono (Nat.le_of_lt hs0')))).mono ?_
  rintro e w2 ⟨rfl, hR⟩
  go_wp2_with fail
  go_ret2
  exact ⟨rfl, w1, hB0.trans (hb1.mono (Nat.le_of_lt hs0')), hR⟩


set_option maxRecDepth 100000 in
set_option maxHeartbeats 1000000 in
theorem descend_find2 (t c a root f pg : Nat) (bt bl : Nat)(R : World → World → Prop)(w : World) (S : Nat → Prop) (p : Pool) (T : Tab) (h : PoolAt w S a p) (ht : TabSelf w t c a root) (htw : t < w.heap.size) (hw : Way p T pg) (hups : ∀ m, 1 ≤ m → m ≤ 4 → (T.nd m (part pg m)).isSome = true) (l : Leaf) (q1 : Nat) (hlf : T.lf pg = some l) (hf1 : T.nd 1 (part pg 1) = some q1)
    (hcl : ∀ w1, Below w.heap.size w w1 → Calls Tryz.prog 93 (#[.int .i64 (q1 : Int), .int .i64 ((num pg 1 : Nat) : Int)] ++ #[.pointer (some ⟨bt, 0, none⟩), .pointer (some ⟨bl, 0, none⟩)]) w1 fun e w2 => e = .returned (.bool false) ∧ R w1 w2)
    (hf : T.nd 2 (part pg 2) = some f) :
    Calls Tryz.prog 87 #[.pointer (some ⟨t, 0, none⟩), .int .i64 (f : Int), wayA pg, .int .i64 2, (.func (.func 93) #[] #[.pointer (some ⟨bt, 0, none⟩), .pointer (some ⟨bl, 0, none⟩)])] w fun e w' => e = .returned (.tuple #[.bool true, .bool false]) ∧ ∃ w1, Below w.heap.size w w1 ∧ R w1 w' := by
  obtain ⟨f1, f2, f3⟩ := hw.node 2 f (by omega) (by omega) hf
  have hB0 : Below w.heap.size w (w.alloc (.cells #[.int .i64 ((num pg 4 : Nat) : Int), .int .i64 ((num pg 3 : Nat) : Int), .int .i64 ((num pg 2 : Nat) : Int), .int .i64 ((num pg 1 : Nat) : Int)] 144)) := (Below.refl _ _).alloc (Nat.le_refl _) _
  have hP0 := h.below hB0
  have hT0 : TabSelf (w.alloc (.cells #[.int .i64 ((num pg 4 : Nat) : Int), .int .i64 ((num pg 3 : Nat) : Int), .int .i64 ((num pg 2 : Nat) : Int), .int .i64 ((num pg 1 : Nat) : Int)] 144)) t c a root := (hB0.block t htw).trans ht
  have hX0 := heap_alloc_new w (.cells #[.int .i64 ((num pg 4 : Nat) : Int), .int .i64 ((num pg 3 : Nat) : Int), .int .i64 ((num pg 2 : Nat) : Int), .int .i64 ((num pg 1 : Nat) : Int)] 144)
  have hn := num_lt pg 2
  have HF3 := Lib.hid f3
  have HL := Lib.hid hlf
  have HF1 := Lib.hid hf1
  have HCL := Lib.hid hcl
  clear hlf hf1 hcl
  have HF := Lib.hid hf
  clear f3 hf
  unfold wayA
  go_enter Tryz.func87, Tryz.ntmps87
  go_upto_region 1 with (fail)
  generalize hw0 : w.alloc (.cells #[.int .i64 ((num pg 4 : Nat) : Int), .int .i64 ((num pg 3 : Nat) : Int), .int .i64 ((num pg 2 : Nat) : Int), .int .i64 ((num pg 1 : Nat) : Int)] 144) = w0 at *
  have hs0 : w0.heap.size = w.heap.size + 1 := by rw [← hw0]; simp
  have hs0' : w.heap.size < w0.heap.size := by omega
  have htw0 : t < w0.heap.size := by omega
  clear hw0 hs0 h ht
  have c0 : w0.cell? ⟨w.heap.size, 0, none⟩ = some (.int .i64 ((num pg 4 : Nat) : Int)) := one_block hX0 0
  have c1 : w0.cell? ⟨w.heap.size, 1, none⟩ = some (.int .i64 ((num pg 3 : Nat) : Int)) := one_block hX0 1
  have c2 : w0.cell? ⟨w.heap.size, 2, none⟩ = some (.int .i64 ((num pg 2 : Nat) : Int)) := one_block hX0 2
  have c3 : w0.cell? ⟨w.heap.size, 3, none⟩ = some (.int .i64 ((num pg 1 : Nat) : Int)) := one_block hX0 3
  go_wp2_with fail
  refine (tword_any t c a root f (num pg 2) w0 S p hP0 hT0 f1 f2 hn).mono ?_
  rintro e w1 ⟨rfl, hb1⟩
  have hz1 := hb1.size
  have hsome : ∃ g, T.nd 1 (part pg 1) = some g := isSome_of (hups 1 (by omega) (by omega))
  obtain ⟨g, hg⟩ := hsome
  have e0 : word (p.dat f) (num pg 2) = g * 4096 + 1 := by (rw [HF3.out, Tab.on_more _ _ _ (by omega)]; show (match T.nd 1 (part pg 1) with | some f => f * 4096 + 1 | none => 0) = _; rw [hg])
  obtain ⟨g1, g2, _⟩ := hw.node 1 g (by omega) (by omega) hg
  have hfew := hw.few
  obtain ⟨x, hx⟩ : ∃ x, x = g * 4096 + 1 := ⟨_, rfl⟩
  rw [e0, ← hx]
  have hx9 : x < 18446744073709551616 := by omega
  have hodd := and_odd hx9 (by omega)
  have hsh : ((x : Int) / 4096) = (g : Int) := by omega
  have HSH := Lib.hid hsh
  have HG := Lib.hid hg
  have hX1 := (hb1.block _ hs0').trans hX0
  have d0 : w1.cell? ⟨w.heap.size, 0, none⟩ = some (.int .i64 ((num pg 4 : Nat) : Int)) := one_block hX1 0
  have d1 : w1.cell? ⟨w.heap.size, 1, none⟩ = some (.int .i64 ((num pg 3 : Nat) : Int)) := one_block hX1 1
  have d2 : w1.cell? ⟨w.heap.size, 2, none⟩ = some (.int .i64 ((num pg 2 : Nat) : Int)) := one_block hX1 2
  have d3 : w1.cell? ⟨w.heap.size, 3, none⟩ = some (.int .i64 ((num pg 1 : Nat) : Int)) := one_block hX1 3
  have hT1 : TabSelf w1 t c a root := (hb1.block t htw0).trans hT0
  clear hx e0 hsh hg hX1 hX0 c0 c1 c2 c3
  go_wp2_with fail
  rw [HSH.out]
  refine (descend_find1 t c a root g pg bt bl R w1 S p T (hP0.below hb1) hT1 (by omega) hw hups l q1 HL.out HF1.out (fun w5 hw5 => HCL.out w5 (hB0.trans ((hb1.trans (hw5.mono hz1)).mono (Nat.le_of_lt hs0')))) HG.out).mono ?_
  rintro e w2 ⟨rfl, w5, hb2, hR⟩
  go_wp2_with fail
  go_ret2
  exact ⟨rfl, w5, hB0.trans ((hb1.trans (hb2.mono hz1)).mono (Nat.le_of_lt hs0')), hR⟩



set_option maxRecDepth 100000 in
set_option maxHeartbeats 1000000 in
theorem descend_find3 (t c a root f pg : Nat) (bt bl : Nat)(R : World → World → Prop)(w : World) (S : Nat → Prop) (p : Pool) (T : Tab) (h : PoolAt w S a p) (ht : TabSelf w t c a root) (htw : t < w.heap.size) (hw : Way p T pg) (hups : ∀ m, 1 ≤ m → m ≤ 4 → (T.nd m (part pg m)).isSome = true) (l : Leaf) (q1 : Nat) (hlf : T.lf pg = some l) (hf1 : T.nd 1 (part pg 1) = some q1)
    (hcl : ∀ w1, Below w.heap.size w w1 → Calls Tryz.prog 93 (#[.int .i64 (q1 : Int), .int .i64 ((num pg 1 : Nat) : Int)] ++ #[.pointer (some ⟨bt, 0, none⟩), .pointer (some ⟨bl, 0, none⟩)]) w1 fun e w2 => e = .returned (.bool false) ∧ R w1 w2)
    (hf : T.nd 3 (part pg 3) = some f) :
    Calls Tryz.prog 87 #[.pointer (some ⟨t, 0, none⟩), .int .i64 (f : Int), wayA pg, .int .i64 1, (.func (.func 93) #[] #[.pointer (some ⟨bt, 0, none⟩), .pointer (some ⟨bl, 0, none⟩)])] w fun e w' => e = .returned (.tuple #[.bool true, .bool false]) ∧ ∃ w1, Below w.heap.size w w1 ∧ R w1 w' := by
  obtain ⟨f1, f2, f3⟩ := hw.node 3 f (by omega) (by omega) hf
  have hB0 : Below w.heap.size w (w.alloc (.cells #[.int .i64 ((num pg 4 : Nat) : Int), .int .i64 ((num pg 3 : Nat) : Int), .int .i64 ((num pg 2 : Nat) : Int), .int .i64 ((num pg 1 : Nat) : Int)] 144)) := (Below.refl _ _).alloc (Nat.le_refl _) _
  have hP0 := h.below hB0
  have hT0 : TabSelf (w.alloc (.cells #[.int .i64 ((num pg 4 : Nat) : Int), .int .i64 ((num pg 3 : Nat) : Int), .int .i64 ((num pg 2 : Nat) : Int), .int .i64 ((num pg 1 : Nat) : Int)] 144)) t c a root := (hB0.block t htw).trans ht
  have hX0 := heap_alloc_new w (.cells #[.int .i64 ((num pg 4 : Nat) : Int), .int .i64 ((num pg 3 : Nat) : Int), .int .i64 ((num pg 2 : Nat) : Int), .int .i64 ((num pg 1 : Nat) : Int)] 144)
  have hn := num_lt pg 3
  have HF3 := Lib.hid f3
  have HL := Lib.hid hlf
  have HF1 := Lib.hid hf1
  have HCL := Lib.hid hcl
  clear hlf hf1 hcl
  have HF := Lib.hid hf
  clear f3 hf
  unfold wayA
  go_enter Tryz.func87, Tryz.ntmps87
  go_upto_region 1 with (fail)
  generalize hw0 : w.alloc (.cells #[.int .i64 ((num pg 4 : Nat) : Int), .int .i64 ((num pg 3 : Nat) : Int), .int .i64 ((num pg 2 : Nat) : Int), .int .i64 ((num pg 1 : Nat) : Int)] 144) = w0 at *
  have hs0 : w0.heap.size = w.heap.size + 1 := by rw [← hw0]; simp
  have hs0' : w.heap.size < w0.heap.size := by omega
  have htw0 : t < w0.heap.size := by omega
  clear hw0 hs0 h ht
  have c0 : w0.cell? ⟨w.heap.size, 0, none⟩ = some (.int .i64 ((num pg 4 : Nat) : Int)) := one_block hX0 0
  have c1 : w0.cell? ⟨w.heap.size, 1, none⟩ = some (.int .i64 ((num pg 3 : Nat) : Int)) := one_block hX0 1
  have c2 : w0.cell? ⟨w.heap.size, 2, none⟩ = some (.int .i64 ((num pg 2 : Nat) : Int)) := one_block hX0 2
  have c3 : w0.cell? ⟨w.heap.size, 3, none⟩ = some (.int .i64 ((num pg 1 : Nat) : Int)) := one_block hX0 3
  go_wp2_with fail
  refine (tword_any t c a root f (num pg 3) w0 S p hP0 hT0 f1 f2 hn).mono ?_
  rintro e w1 ⟨rfl, hb1⟩
  have hz1 := hb1.size
  have hsome : ∃ g, T.nd 2 (part pg 2) = some g := isSome_of (hups 2 (by omega) (by omega))
  obtain ⟨g, hg⟩ := hsome
  have e0 : word (p.dat f) (num pg 3) = g * 4096 + 1 := by (rw [HF3.out, Tab.on_more _ _ _ (by omega)]; show (match T.nd 2 (part pg 2) with | some f => f * 4096 + 1 | none => 0) = _; rw [hg])
  obtain ⟨g1, g2, _⟩ := hw.node 2 g (by omega) (by omega) hg
  have hfew := hw.few
  obtain ⟨x, hx⟩ : ∃ x, x = g * 4096 + 1 := ⟨_, rfl⟩
  rw [e0, ← hx]
  have hx9 : x < 18446744073709551616 := by omega
  have hodd := and_odd hx9 (by omega)
  have hsh : ((x : Int) / 4096) = (g : Int) := by omega
  have HSH := Lib.hid hsh
  have HG := Lib.hid hg
  have hX1 := (hb1.block _ hs0').trans hX0
  have d0 : w1.cell? ⟨w.heap.size, 0, none⟩ = some (.int .i64 ((num pg 4 : Nat) : Int)) := one_block hX1 0
  have d1 : w1.cell? ⟨w.heap.size, 1, none⟩ = some (.int .i64 ((num pg 3 : Nat) : Int)) := one_block hX1 1
  have d2 : w1.cell? ⟨w.heap.size, 2, none⟩ = some (.int .i64 ((num pg 2 : Nat) : Int)) := one_block hX1 2
  have d3 : w1.cell? ⟨w.heap.size, 3, none⟩ = some (.int .i64 ((num pg 1 : Nat) : Int)) := one_block hX1 3
  have hT1 : TabSelf w1 t c a root := (hb1.block t htw0).trans hT0
  clear hx e0 hsh hg hX1 hX0 c0 c1 c2 c3
  go_wp2_with fail
  rw [HSH.out]
  refine (descend_find2 t c a root g pg bt bl R w1 S p T (hP0.below hb1) hT1 (by omega) hw hups l q1 HL.out HF1.out (fun w5 hw5 => HCL.out w5 (hB0.trans ((hb1.trans (hw5.mono hz1)).mono (Nat.le_of_lt hs0')))) HG.out).mono ?_
  rintro e w2 ⟨rfl, w5, hb2, hR⟩
  go_wp2_with fail
  go_ret2
  exact ⟨rfl, w5, hB0.trans ((hb1.trans (hb2.mono hz1)).mono (Nat.le_of_lt hs0')), hR⟩



set_option maxRecDepth 100000 in
set_option maxHeartbeats 1000000 in
theorem descend_find4 (t c a root f pg : Nat) (bt bl : Nat)(R : World → World → Prop)(w : World) (S : Nat → Prop) (p : Pool) (T : Tab) (h : PoolAt w S a p) (ht : TabSelf w t c a root) (htw : t < w.heap.size) (hw : Way p T pg) (hups : ∀ m, 1 ≤ m → m ≤ 4 → (T.nd m (part pg m)).isSome = true) (l : Leaf) (q1 : Nat) (hlf : T.lf pg = some l) (hf1 : T.nd 1 (part pg 1) = some q1)
    (hcl : ∀ w1, Below w.heap.size w w1 → Calls Tryz.prog 93 (#[.int .i64 (q1 : Int), .int .i64 ((num pg 1 : Nat) : Int)] ++ #[.pointer (some ⟨bt, 0, none⟩), .pointer (some ⟨bl, 0, none⟩)]) w1 fun e w2 => e = .returned (.bool false) ∧ R w1 w2)
    (hf : T.nd 4 (part pg 4) = some f) :
    Calls Tryz.prog 87 #[.pointer (some ⟨t, 0, none⟩), .int .i64 (f : Int), wayA pg, .int .i64 0, (.func (.func 93) #[] #[.pointer (some ⟨bt, 0, none⟩), .pointer (some ⟨bl, 0, none⟩)])] w fun e w' => e = .returned (.tuple #[.bool true, .bool false]) ∧ ∃ w1, Below w.heap.size w w1 ∧ R w1 w' := by
  obtain ⟨f1, f2, f3⟩ := hw.node 4 f (by omega) (by omega) hf
  have hB0 : Below w.heap.size w (w.alloc (.cells #[.int .i64 ((num pg 4 : Nat) : Int), .int .i64 ((num pg 3 : Nat) : Int), .int .i64 ((num pg 2 : Nat) : Int), .int .i64 ((num pg 1 : Nat) : Int)] 144)) := (Below.refl _ _).alloc (Nat.le_refl _) _
  have hP0 := h.below hB0
  have hT0 : TabSelf (w.alloc (.cells #[.int .i64 ((num pg 4 : Nat) : Int), .int .i64 ((num pg 3 : Nat) : Int), .int .i64 ((num pg 2 : Nat) : Int), .int .i64 ((num pg 1 : Nat) : Int)] 144)) t c a root := (hB0.block t htw).trans ht
  have hX0 := heap_alloc_new w (.cells #[.int .i64 ((num pg 4 : Nat) : Int), .int .i64 ((num pg 3 : Nat) : Int), .int .i64 ((num pg 2 : Nat) : Int), .int .i64 ((num pg 1 : Nat) : Int)] 144)
  have hn := num_lt pg 4
  have HF3 := Lib.hid f3
  have HL := Lib.hid hlf
  have HF1 := Lib.hid hf1
  have HCL := Lib.hid hcl
  clear hlf hf1 hcl
  have HF := Lib.hid hf
  clear f3 hf
  unfold wayA
  go_enter Tryz.func87, Tryz.ntmps87
  go_upto_region 1 with (fail)
  generalize hw0 : w.alloc (.cells #[.int .i64 ((num pg 4 : Nat) : Int), .int .i64 ((num pg 3 : Nat) : Int), .int .i64 ((num pg 2 : Nat) : Int), .int .i64 ((num pg 1 : Nat) : Int)] 144) = w0 at *
  have hs0 : w0.heap.size = w.heap.size + 1 := by rw [← hw0]; simp
  have hs0' : w.heap.size < w0.heap.size := by omega
  have htw0 : t < w0.heap.size := by omega
  clear hw0 hs0 h ht
  have c0 : w0.cell? ⟨w.heap.size, 0, none⟩ = some (.int .i64 ((num pg 4 : Nat) : Int)) := one_block hX0 0
  have c1 : w0.cell? ⟨w.heap.size, 1, none⟩ = some (.int .i64 ((num pg 3 : Nat) : Int)) := one_block hX0 1
  have c2 : w0.cell? ⟨w.heap.size, 2, none⟩ = some (.int .i64 ((num pg 2 : Nat) : Int)) := one_block hX0 2
  have c3 : w0.cell? ⟨w.heap.size, 3, none⟩ = some (.int .i64 ((num pg 1 : Nat) : Int)) := one_block hX0 3
  go_wp2_with fail
  refine (tword_any t c a root f (num pg 4) w0 S p hP0 hT0 f1 f2 hn).mono ?_
  rintro e w1 ⟨rfl, hb1⟩
  have hz1 := hb1.size
  have hsome : ∃ g, T.nd 3 (part pg 3) = some g := isSome_of (hups 3 (by omega) (by omega))
  obtain ⟨g, hg⟩ := hsome
  have e0 : word (p.dat f) (num pg 4) = g * 4096 + 1 := by (rw [HF3.out, Tab.on_more _ _ _ (by omega)]; show (match T.nd 3 (part pg 3) with | some f => f * 4096 + 1 | none => 0) = _; rw [hg])
  obtain ⟨g1, g2, _⟩ := hw.node 3 g (by omega) (by omega) hg
  have hfew := hw.few
  obtain ⟨x, hx⟩ : ∃ x, x = g * 4096 + 1 := ⟨_, rfl⟩
  rw [e0, ← hx]
  have hx9 : x < 18446744073709551616 := by omega
  have hodd := and_odd hx9 (by omega)
  have hsh : ((x : Int) / 4096) = (g : Int) := by omega
  have HSH := Lib.hid hsh
  have HG := Lib.hid hg
  have hX1 := (hb1.block _ hs0').trans hX0
  have d0 : w1.cell? ⟨w.heap.size, 0, none⟩ = some (.int .i64 ((num pg 4 : Nat) : Int)) := one_block hX1 0
  have d1 : w1.cell? ⟨w.heap.size, 1, none⟩ = some (.int .i64 ((num pg 3 : Nat) : Int)) := one_block hX1 1
  have d2 : w1.cell? ⟨w.heap.size, 2, none⟩ = some (.int .i64 ((num pg 2 : Nat) : Int)) := one_block hX1 2
  have d3 : w1.cell? ⟨w.heap.size, 3, none⟩ = some (.int .i64 ((num pg 1 : Nat) : Int)) := one_block hX1 3
  have hT1 : TabSelf w1 t c a root := (hb1.block t htw0).trans hT0
  clear hx e0 hsh hg hX1 hX0 c0 c1 c2 c3
  go_wp2_with fail
  rw [HSH.out]
  refine (descend_find3 t c a root g pg bt bl R w1 S p T (hP0.below hb1) hT1 (by omega) hw hups l q1 HL.out HF1.out (fun w5 hw5 => HCL.out w5 (hB0.trans ((hb1.trans (hw5.mono hz1)).mono (Nat.le_of_lt hs0')))) HG.out).mono ?_
  rintro e w2 ⟨rfl, w5, hb2, hR⟩
  go_wp2_with fail
  go_ret2
  exact ⟨rfl, w5, hB0.trans ((hb1.trans (hb2.mono hz1)).mono (Nat.le_of_lt hs0')), hR⟩



set_option maxRecDepth 100000 in
set_option maxHeartbeats 1000000 in
theorem descend_set1 (t c a root f pg : Nat) (bt bl : Nat)(R : World → World → Prop)(w : World) (S : Nat → Prop) (p : Pool) (T : Tab) (h : PoolAt w S a p) (ht : TabSelf w t c a root) (htw : t < w.heap.size) (hw : Way p T pg) (hups : ∀ m, 1 ≤ m → m ≤ 4 → (T.nd m (part pg m)).isSome = true) (l : Leaf) (q1 : Nat) (hlf : T.lf pg = some l) (hf1 : T.nd 1 (part pg 1) = some q1)
    (hcl : ∀ w1, Below w.heap.size w w1 → Calls Tryz.prog 102 (#[.int .i64 (q1 : Int), .int .i64 ((num pg 1 : Nat) : Int)] ++ #[.pointer (some ⟨bt, 0, none⟩), .pointer (some ⟨bl, 0, none⟩)]) w1 fun e w2 => e = .returned (.bool false) ∧ R w1 w2)
    (hf : T.nd 1 (part pg 1) = some f) :
    Calls Tryz.prog 87 #[.pointer (some ⟨t, 0, none⟩), .int .i64 (f : Int), wayA pg, .int .i64 3, (.func (.func 102) #[] #[.pointer (some ⟨bt, 0, none⟩), .pointer (some ⟨bl, 0, none⟩)])] w fun e w' => e = .returned (.tuple #[.bool true, .bool false]) ∧ ∃ w1, Below w.heap.size w w1 ∧ R w1 w' := by
  obtain ⟨f1, f2, f3⟩ := hw.node 1 f (by omega) (by omega) hf
  have hB0 : Below w.heap.size w (w.alloc (.cells #[.int .i64 ((num pg 4 : Nat) : Int), .int .i64 ((num pg 3 : Nat) : Int), .int .i64 ((num pg 2 : Nat) : Int), .int .i64 ((num pg 1 : Nat) : Int)] 144)) := (Below.refl _ _).alloc (Nat.le_refl _) _
  have hP0 := h.below hB0
  have hT0 : TabSelf (w.alloc (.cells #[.int .i64 ((num pg 4 : Nat) : Int), .int .i64 ((num pg 3 : Nat) : Int), .int .i64 ((num pg 2 : Nat) : Int), .int .i64 ((num pg 1 : Nat) : Int)] 144)) t c a root := (hB0.block t htw).trans ht
  have hX0 := heap_alloc_new w (.cells #[.int .i64 ((num pg 4 : Nat) : Int), .int .i64 ((num pg 3 : Nat) : Int), .int .i64 ((num pg 2 : Nat) : Int), .int .i64 ((num pg 1 : Nat) : Int)] 144)
  have hn := num_lt pg 1
  have HF3 := Lib.hid f3
  have HL := Lib.hid hlf
  have HF1 := Lib.hid hf1
  have HCL := Lib.hid hcl
  clear hlf hf1 hcl
  have HF := Lib.hid hf
  clear f3 hf
  unfold wayA
  go_enter Tryz.func87, Tryz.ntmps87
  go_upto_region 1 with (fail)
  generalize hw0 : w.alloc (.cells #[.int .i64 ((num pg 4 : Nat) : Int), .int .i64 ((num pg 3 : Nat) : Int), .int .i64 ((num pg 2 : Nat) : Int), .int .i64 ((num pg 1 : Nat) : Int)] 144) = w0 at *
  have hs0 : w0.heap.size = w.heap.size + 1 := by rw [← hw0]; simp
  have hs0' : w.heap.size < w0.heap.size := by omega
  have htw0 : t < w0.heap.size := by omega
  clear hw0 hs0 h ht
  have c0 : w0.cell? ⟨w.heap.size, 0, none⟩ = some (.int .i64 ((num pg 4 : Nat) : Int)) := one_block hX0 0
  have c1 : w0.cell? ⟨w.heap.size, 1, none⟩ = some (.int .i64 ((num pg 3 : Nat) : Int)) := one_block hX0 1
  have c2 : w0.cell? ⟨w.heap.size, 2, none⟩ = some (.int .i64 ((num pg 2 : Nat) : Int)) := one_block hX0 2
  have c3 : w0.cell? ⟨w.heap.size, 3, none⟩ = some (.int .i64 ((num pg 1 : Nat) : Int)) := one_block hX0 3
  go_wp2_with fail
  refine (tword_any t c a root f (num pg 1) w0 S p hP0 hT0 f1 f2 hn).mono ?_
  rintro e w1 ⟨rfl, hb1⟩
  have hz1 := hb1.size
  have e0 : word (p.dat f) (num pg 1) = l.pack := by (rw [HF3.out, Tab.on_one, HL.out])
  obtain rfl : f = q1 := by (have e9 := HF.out; rw [HF1.out] at e9; injection e9 with e9; exact e9.symm)
  obtain ⟨x, hx⟩ : ∃ x, x = l.pack := ⟨_, rfl⟩
  rw [e0, ← hx]
  have hl7 := hw.prot l HL.out
  have hfew := hw.few
  have hx9 : x < 18446744073709551616 := by (rw [hx]; have := pack_lt l hl7.1 (by omega); omega)
  have hodd := and_odd hx9 (by rw [hx]; exact pack_odd l)
  clear hx e0
  go_wp2_with fail
  refine (HCL.out w1 (hB0.trans (hb1.mono (Nat.le_of_lt hs0')))).mono ?_
  rintro e w2 ⟨rfl, hR⟩
  go_wp2_with fail
  go_ret2
  exact ⟨rfl, w1, hB0.trans (hb1.mono (Nat.le_of_lt hs0')), hR⟩


set_option maxRecDepth 100000 in
set_option maxHeartbeats 1000000 in
theorem descend_set2 (t c a root f pg : Nat) (bt bl : Nat)(R : World → World → Prop)(w : World) (S : Nat → Prop) (p : Pool) (T : Tab) (h : PoolAt w S a p) (ht : TabSelf w t c a root) (htw : t < w.heap.size) (hw : Way p T pg) (hups : ∀ m, 1 ≤ m → m ≤ 4 → (T.nd m (part pg m)).isSome = true) (l : Leaf) (q1 : Nat) (hlf : T.lf pg = some l) (hf1 : T.nd 1 (part pg 1) = some q1)
    (hcl : ∀ w1, Below w.heap.size w w1 → Calls Tryz.prog 102 (#[.int .i64 (q1 : Int), .int .i64 ((num pg 1 : Nat) : Int)] ++ #[.pointer (some ⟨bt, 0, none⟩), .pointer (some ⟨bl, 0, none⟩)]) w1 fun e w2 => e = .returned (.bool false) ∧ R w1 w2)
    (hf : T.nd 2 (part pg 2) = some f) :
    Calls Tryz.prog 87 #[.pointer (some ⟨t, 0, none⟩), .int .i64 (f : Int), wayA pg, .int .i64 2, (.func (.func 102) #[] #[.pointer (some ⟨bt, 0, none⟩), .pointer (some ⟨bl, 0, none⟩)])] w fun e w' => e = .returned (.tuple #[.bool true, .bool false]) ∧ ∃ w1, Below w.heap.size w w1 ∧ R w1 w' := by
  obtain ⟨f1, f2, f3⟩ := hw.node 2 f (by omega) (by omega) hf
  have hB0 : Below w.heap.size w (w.alloc (.cells #[.int .i64 ((num pg 4 : Nat) : Int), .int .i64 ((num pg 3 : Nat) : Int), .int .i64 ((num pg 2 : Nat) : Int), .int .i64 ((num pg 1 : Nat) : Int)] 144)) := (Below.refl _ _).alloc (Nat.le_refl _) _
  have hP0 := h.below hB0
  have hT0 : TabSelf (w.alloc (.cells #[.int .i64 ((num pg 4 : Nat) : Int), .int .i64 ((num pg 3 : Nat) : Int), .int .i64 ((num pg 2 : Nat) : Int), .int .i64 ((num pg 1 : Nat) : Int)] 144)) t c a root := (hB0.block t htw).trans ht
  have hX0 := heap_alloc_new w (.cells #[.int .i64 ((num pg 4 : Nat) : Int), .int .i64 ((num pg 3 : Nat) : Int), .int .i64 ((num pg 2 : Nat) : Int), .int .i64 ((num pg 1 : Nat) : Int)] 144)
  have hn := num_lt pg 2
  have HF3 := Lib.hid f3
  have HL := Lib.hid hlf
  have HF1 := Lib.hid hf1
  have HCL := Lib.hid hcl
  clear hlf hf1 hcl
  have HF := Lib.hid hf
  clear f3 hf
  unfold wayA
  go_enter Tryz.func87, Tryz.ntmps87
  go_upto_region 1 with (fail)
  generalize hw0 : w.alloc (.cells #[.int .i64 ((num pg 4 : Nat) : Int), .int .i64 ((num pg 3 : Nat) : Int), .int .i64 ((num pg 2 : Nat) : Int), .int .i64 ((num pg 1 : Nat) : Int)] 144) = w0 at *
  have hs0 : w0.heap.size = w.heap.size + 1 := by rw [← hw0]; simp
  have hs0' : w.heap.size < w0.heap.size := by omega
  have htw0 : t < w0.heap.size := by omega
  clear hw0 hs0 h ht
  have c0 : w0.cell? ⟨w.heap.size, 0, none⟩ = some (.int .i64 ((num pg 4 : Nat) : Int)) := one_block hX0 0
  have c1 : w0.cell? ⟨w.heap.size, 1, none⟩ = some (.int .i64 ((num pg 3 : Nat) : Int)) := one_block hX0 1
  have c2 : w0.cell? ⟨w.heap.size, 2, none⟩ = some (.int .i64 ((num pg 2 : Nat) : Int)) := one_block hX0 2
  have c3 : w0.cell? ⟨w.heap.size, 3, none⟩ = some (.int .i64 ((num pg 1 : Nat) : Int)) := one_block hX0 3
  go_wp2_with fail
  refine (tword_any t c a root f (num pg 2) w0 S p hP0 hT0 f1 f2 hn).mono ?_
  rintro e w1 ⟨rfl, hb1⟩
  have hz1 := hb1.size
  have hsome : ∃ g, T.nd 1 (part pg 1) = some g := isSome_of (hups 1 (by omega) (by omega))
  obtain ⟨g, hg⟩ := hsome
  have e0 : word (p.dat f) (num pg 2) = g * 4096 + 1 := by (rw [HF3.out, Tab.on_more _ _ _ (by omega)]; show (match T.nd 1 (part pg 1) with | some f => f * 4096 + 1 | none => 0) = _; rw [hg])
  obtain ⟨g1, g2, _⟩ := hw.node 1 g (by omega) (by omega) hg
  have hfew := hw.few
  obtain ⟨x, hx⟩ : ∃ x, x = g * 4096 + 1 := ⟨_, rfl⟩
  rw [e0, ← hx]
  have hx9 : x < 18446744073709551616 := by omega
  have hodd := and_odd hx9 (by omega)
  have hsh : ((x : Int) / 4096) = (g : Int) := by omega
  have HSH := Lib.hid hsh
  have HG := Lib.hid hg
  have hX1 := (hb1.block _ hs0').trans hX0
  have d0 : w1.cell? ⟨w.heap.size, 0, none⟩ = some (.int .i64 ((num pg 4 : Nat) : Int)) := one_block hX1 0
  have d1 : w1.cell? ⟨w.heap.size, 1, none⟩ = some (.int .i64 ((num pg 3 : Nat) : Int)) := one_block hX1 1
  have d2 : w1.cell? ⟨w.heap.size, 2, none⟩ = some (.int .i64 ((num pg 2 : Nat) : Int)) := one_block hX1 2
  have d3 : w1.cell? ⟨w.heap.size, 3, none⟩ = some (.int .i64 ((num pg 1 : Nat) : Int)) := one_block hX1 3
  have hT1 : TabSelf w1 t c a root := (hb1.block t htw0).trans hT0
  clear hx e0 hsh hg hX1 hX0 c0 c1 c2 c3
  go_wp2_with fail
  rw [HSH.out]
  refine (descend_set1 t c a root g pg bt bl R w1 S p T (hP0.below hb1) hT1 (by omega) hw hups l q1 HL.out HF1.out (fun w5 hw5 => HCL.out w5 (hB0.trans ((hb1.trans (hw5.mono hz1)).mono (Nat.le_of_lt hs0')))) HG.out).mono ?_
  rintro e w2 ⟨rfl, w5, hb2, hR⟩
  go_wp2_with fail
  go_ret2
  exact ⟨rfl, w5, hB0.trans ((hb1.trans (hb2.mono hz1)).mono (Nat.le_of_lt hs0')), hR⟩



set_option maxRecDepth 100000 in
set_option maxHeartbeats 1000000 in
theorem descend_set3 (t c a root f pg : Nat) (bt bl : Nat)(R : World → World → Prop)(w : World) (S : Nat → Prop) (p : Pool) (T : Tab) (h : PoolAt w S a p) (ht : TabSelf w t c a root) (htw : t < w.heap.size) (hw : Way p T pg) (hups : ∀ m, 1 ≤ m → m ≤ 4 → (T.nd m (part pg m)).isSome = true) (l : Leaf) (q1 : Nat) (hlf : T.lf pg = some l) (hf1 : T.nd 1 (part pg 1) = some q1)
    (hcl : ∀ w1, Below w.heap.size w w1 → Calls Tryz.prog 102 (#[.int .i64 (q1 : Int), .int .i64 ((num pg 1 : Nat) : Int)] ++ #[.pointer (some ⟨bt, 0, none⟩), .pointer (some ⟨bl, 0, none⟩)]) w1 fun e w2 => e = .returned (.bool false) ∧ R w1 w2)
    (hf : T.nd 3 (part pg 3) = some f) :
    Calls Tryz.prog 87 #[.pointer (some ⟨t, 0, none⟩), .int .i64 (f : Int), wayA pg, .int .i64 1, (.func (.func 102) #[] #[.pointer (some ⟨bt, 0, none⟩), .pointer (some ⟨bl, 0, none⟩)])] w fun e w' => e = .returned (.tuple #[.bool true, .bool false]) ∧ ∃ w1, Below w.heap.size w w1 ∧ R w1 w' := by
  obtain ⟨f1, f2, f3⟩ := hw.node 3 f (by omega) (by omega) hf
  have hB0 : Below w.heap.size w (w.alloc (.cells #[.int .i64 ((num pg 4 : Nat) : Int), .int .i64 ((num pg 3 : Nat) : Int), .int .i64 ((num pg 2 : Nat) : Int), .int .i64 ((num pg 1 : Nat) : Int)] 144)) := (Below.refl _ _).alloc (Nat.le_refl _) _
  have hP0 := h.below hB0
  have hT0 : TabSelf (w.alloc (.cells #[.int .i64 ((num pg 4 : Nat) : Int), .int .i64 ((num pg 3 : Nat) : Int), .int .i64 ((num pg 2 : Nat) : Int), .int .i64 ((num pg 1 : Nat) : Int)] 144)) t c a root := (hB0.block t htw).trans ht
  have hX0 := heap_alloc_new w (.cells #[.int .i64 ((num pg 4 : Nat) : Int), .int .i64 ((num pg 3 : Nat) : Int), .int .i64 ((num pg 2 : Nat) : Int), .int .i64 ((num pg 1 : Nat) : Int)] 144)
  have hn := num_lt pg 3
  have HF3 := Lib.hid f3
  have HL := Lib.hid hlf
  have HF1 := Lib.hid hf1
  have HCL := Lib.hid hcl
  clear hlf hf1 hcl
  have HF := Lib.hid hf
  clear f3 hf
  unfold wayA
  go_enter Tryz.func87, Tryz.ntmps87
  go_upto_region 1 with (fail)
  generalize hw0 : w.alloc (.cells #[.int .i64 ((num pg 4 : Nat) : Int), .int .i64 ((num pg 3 : Nat) : Int), .int .i64 ((num pg 2 : Nat) : Int), .int .i64 ((num pg 1 : Nat) : Int)] 144) = w0 at *
  have hs0 : w0.heap.size = w.heap.size + 1 := by rw [← hw0]; simp
  have hs0' : w.heap.size < w0.heap.size := by omega
  have htw0 : t < w0.heap.size := by omega
  clear hw0 hs0 h ht
  have c0 : w0.cell? ⟨w.heap.size, 0, none⟩ = some (.int .i64 ((num pg 4 : Nat) : Int)) := one_block hX0 0
  have c1 : w0.cell? ⟨w.heap.size, 1, none⟩ = some (.int .i64 ((num pg 3 : Nat) : Int)) := one_block hX0 1
  have c2 : w0.cell? ⟨w.heap.size, 2, none⟩ = some (.int .i64 ((num pg 2 : Nat) : Int)) := one_block hX0 2
  have c3 : w0.cell? ⟨w.heap.size, 3, none⟩ = some (.int .i64 ((num pg 1 : Nat) : Int)) := one_block hX0 3
  go_wp2_with fail
  refine (tword_any t c a root f (num pg 3) w0 S p hP0 hT0 f1 f2 hn).mono ?_
  rintro e w1 ⟨rfl, hb1⟩
  have hz1 := hb1.size
  have hsome : ∃ g, T.nd 2 (part pg 2) = some g := isSome_of (hups 2 (by omega) (by omega))
  obtain ⟨g, hg⟩ := hsome
  have e0 : word (p.dat f) (num pg 3) = g * 4096 + 1 := by (rw [HF3.out, Tab.on_more _ _ _ (by omega)]; show (match T.nd 2 (part pg 2) with | some f => f * 4096 + 1 | none => 0) = _; rw [hg])
  obtain ⟨g1, g2, _⟩ := hw.node 2 g (by omega) (by omega) hg
  have hfew := hw.few
  obtain ⟨x, hx⟩ : ∃ x, x = g * 4096 + 1 := ⟨_, rfl⟩
  rw [e0, ← hx]
  have hx9 : x < 18446744073709551616 := by omega
  have hodd := and_odd hx9 (by omega)
  have hsh : ((x : Int) / 4096) = (g : Int) := by omega
  have HSH := Lib.hid hsh
  have HG := Lib.hid hg
  have hX1 := (hb1.block _ hs0').trans hX0
  have d0 : w1.cell? ⟨w.heap.size, 0, none⟩ = some (.int .i64 ((num pg 4 : Nat) : Int)) := one_block hX1 0
  have d1 : w1.cell? ⟨w.heap.size, 1, none⟩ = some (.int .i64 ((num pg 3 : Nat) : Int)) := one_block hX1 1
  have d2 : w1.cell? ⟨w.heap.size, 2, none⟩ = some (.int .i64 ((num pg 2 : Nat) : Int)) := one_block hX1 2
  have d3 : w1.cell? ⟨w.heap.size, 3, none⟩ = some (.int .i64 ((num pg 1 : Nat) : Int)) := one_block hX1 3
  have hT1 : TabSelf w1 t c a root := (hb1.block t htw0).trans hT0
  clear hx e0 hsh hg hX1 hX0 c0 c1 c2 c3
  go_wp2_with fail
  rw [HSH.out]
  refine (descend_set2 t c a root g pg bt bl R w1 S p T (hP0.below hb1) hT1 (by omega) hw hups l q1 HL.out HF1.out (fun w5 hw5 => HCL.out w5 (hB0.trans ((hb1.trans (hw5.mono hz1)).mono (Nat.le_of_lt hs0')))) HG.out).mono ?_
  rintro e w2 ⟨rfl, w5, hb2, hR⟩
  go_wp2_with fail
  go_ret2
  exact ⟨rfl, w5, hB0.trans ((hb1.trans (hb2.mono hz1)).mono (Nat.le_of_lt hs0')), hR⟩



set_option maxRecDepth 100000 in
set_option maxHeartbeats 1000000 in
theorem descend_set4 (t c a root f pg : Nat) (bt bl : Nat)(R : World → World → Prop)(w : World) (S : Nat → Prop) (p : Pool) (T : Tab) (h : PoolAt w S a p) (ht : TabSelf w t c a root) (htw : t < w.heap.size) (hw : Way p T pg) (hups : ∀ m, 1 ≤ m → m ≤ 4 → (T.nd m (part pg m)).isSome = true) (l : Leaf) (q1 : Nat) (hlf : T.lf pg = some l) (hf1 : T.nd 1 (part pg 1) = some q1)
    (hcl : ∀ w1, Below w.heap.size w w1 → Calls Tryz.prog 102 (#[.int .i64 (q1 : Int), .int .i64 ((num pg 1 : Nat) : Int)] ++ #[.pointer (some ⟨bt, 0, none⟩), .pointer (some ⟨bl, 0, none⟩)]) w1 fun e w2 => e = .returned (.bool false) ∧ R w1 w2)
    (hf : T.nd 4 (part pg 4) = some f) :
    Calls Tryz.prog 87 #[.pointer (some ⟨t, 0, none⟩), .int .i64 (f : Int), wayA pg, .int .i64 0, (.func (.func 102) #[] #[.pointer (some ⟨bt, 0, none⟩), .pointer (some ⟨bl, 0, none⟩)])] w fun e w' => e = .returned (.tuple #[.bool true, .bool false]) ∧ ∃ w1, Below w.heap.size w w1 ∧ R w1 w' := by
  obtain ⟨f1, f2, f3⟩ := hw.node 4 f (by omega) (by omega) hf
  have hB0 : Below w.heap.size w (w.alloc (.cells #[.int .i64 ((num pg 4 : Nat) : Int), .int .i64 ((num pg 3 : Nat) : Int), .int .i64 ((num pg 2 : Nat) : Int), .int .i64 ((num pg 1 : Nat) : Int)] 144)) := (Below.refl _ _).alloc (Nat.le_refl _) _
  have hP0 := h.below hB0
  have hT0 : TabSelf (w.alloc (.cells #[.int .i64 ((num pg 4 : Nat) : Int), .int .i64 ((num pg 3 : Nat) : Int), .int .i64 ((num pg 2 : Nat) : Int), .int .i64 ((num pg 1 : Nat) : Int)] 144)) t c a root := (hB0.block t htw).trans ht
  have hX0 := heap_alloc_new w (.cells #[.int .i64 ((num pg 4 : Nat) : Int), .int .i64 ((num pg 3 : Nat) : Int), .int .i64 ((num pg 2 : Nat) : Int), .int .i64 ((num pg 1 : Nat) : Int)] 144)
  have hn := num_lt pg 4
  have HF3 := Lib.hid f3
  have HL := Lib.hid hlf
  have HF1 := Lib.hid hf1
  have HCL := Lib.hid hcl
  clear hlf hf1 hcl
  have HF := Lib.hid hf
  clear f3 hf
  unfold wayA
  go_enter Tryz.func87, Tryz.ntmps87
  go_upto_region 1 with (fail)
  generalize hw0 : w.alloc (.cells #[.int .i64 ((num pg 4 : Nat) : Int), .int .i64 ((num pg 3 : Nat) : Int), .int .i64 ((num pg 2 : Nat) : Int), .int .i64 ((num pg 1 : Nat) : Int)] 144) = w0 at *
  have hs0 : w0.heap.size = w.heap.size + 1 := by rw [← hw0]; simp
  have hs0' : w.heap.size < w0.heap.size := by omega
  have htw0 : t < w0.heap.size := by omega
  clear hw0 hs0 h ht
  have c0 : w0.cell? ⟨w.heap.size, 0, none⟩ = some (.int .i64 ((num pg 4 : Nat) : Int)) := one_block hX0 0
  have c1 : w0.cell? ⟨w.heap.size, 1, none⟩ = some (.int .i64 ((num pg 3 : Nat) : Int)) := one_block hX0 1
  have c2 : w0.cell? ⟨w.heap.size, 2, none⟩ = some (.int .i64 ((num pg 2 : Nat) : Int)) := one_block hX0 2
  have c3 : w0.cell? ⟨w.heap.size, 3, none⟩ = some (.int .i64 ((num pg 1 : Nat) : Int)) := one_block hX0 3
  go_wp2_with fail
  refine (tword_any t c a root f (num pg 4) w0 S p hP0 hT0 f1 f2 hn).mono ?_
  rintro e w1 ⟨rfl, hb1⟩
  have hz1 := hb1.size
  have hsome : ∃ g, T.nd 3 (part pg 3) = some g := isSome_of (hups 3 (by omega) (by omega))
  obtain ⟨g, hg⟩ := hsome
  have e0 : word (p.dat f) (num pg 4) = g * 4096 + 1 := by (rw [HF3.out, Tab.on_more _ _ _ (by omega)]; show (match T.nd 3 (part pg 3) with | some f => f * 4096 + 1 | none => 0) = _; rw [hg])
  obtain ⟨g1, g2, _⟩ := hw.node 3 g (by omega) (by omega) hg
  have hfew := hw.few
  obtain ⟨x, hx⟩ : ∃ x, x = g * 4096 + 1 := ⟨_, rfl⟩
  rw [e0, ← hx]
  have hx9 : x < 18446744073709551616 := by omega
  have hodd := and_odd hx9 (by omega)
  have hsh : ((x : Int) / 4096) = (g : Int) := by omega
  have HSH := Lib.hid hsh
  have HG := Lib.hid hg
  have hX1 := (hb1.block _ hs0').trans hX0
  have d0 : w1.cell? ⟨w.heap.size, 0, none⟩ = some (.int .i64 ((num pg 4 : Nat) : Int)) := one_block hX1 0
  have d1 : w1.cell? ⟨w.heap.size, 1, none⟩ = some (.int .i64 ((num pg 3 : Nat) : Int)) := one_block hX1 1
  have d2 : w1.cell? ⟨w.heap.size, 2, none⟩ = some (.int .i64 ((num pg 2 : Nat) : Int)) := one_block hX1 2
  have d3 : w1.cell? ⟨w.heap.size, 3, none⟩ = some (.int .i64 ((num pg 1 : Nat) : Int)) := one_block hX1 3
  have hT1 : TabSelf w1 t c a root := (hb1.block t htw0).trans hT0
  clear hx e0 hsh hg hX1 hX0 c0 c1 c2 c3
  go_wp2_with fail
  rw [HSH.out]
  refine (descend_set3 t c a root g pg bt bl R w1 S p T (hP0.below hb1) hT1 (by omega) hw hups l q1 HL.out HF1.out (fun w5 hw5 => HCL.out w5 (hB0.trans ((hb1.trans (hw5.mono hz1)).mono (Nat.le_of_lt hs0')))) HG.out).mono ?_
  rintro e w2 ⟨rfl, w5, hb2, hR⟩
  go_wp2_with fail
  go_ret2
  exact ⟨rfl, w5, hB0.trans ((hb1.trans (hb2.mono hz1)).mono (Nat.le_of_lt hs0')), hR⟩



end Go.Proofs.YtmkgdgfbdmjeeaaGreatDoor
