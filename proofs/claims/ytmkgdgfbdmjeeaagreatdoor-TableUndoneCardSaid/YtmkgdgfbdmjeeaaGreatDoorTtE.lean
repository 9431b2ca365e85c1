/- Tables: at, Find. -/
import Derived.Test.YtmkgdgfbdmjeeaaGreatDoorTtD
import Derived.Deep.RegionHeld3
namespace Go.Proofs.YtmkgdgfbdmjeeaaGreatDoor
open Go.RowKit
set_option linter.unusedSimpArgs false
set_option linter.unusedVariables false

def leafCells (l : Leaf) : Array Value := #[.int .i64 (l.frame : Int), .int .u8 (l.prot : Int), .bool l.copy]
/-- A cell that holds the table's pointer. -/
def PtrAt (w : World) (b t : Nat) : Prop := w.heap[b]? = some (.cells #[.pointer (some ⟨t, 0, none⟩)] 54 (0, 0))
def LeafAt (w : World) (b : Nat) (l : Leaf) : Prop := w.heap[b]? = some (.cells #[.int .i64 (l.frame : Int), .int .u8 (l.prot : Int), .bool l.copy] 31 (0, 0))

theorem keep2 {w w' : World} {b o : Nat} {v : Value} (hb : Below w.heap.size w w') (h : w.cell? ⟨b, o, none⟩ = some v ∧ b < w.heap.size) : w'.cell? ⟨b, o, none⟩ = some v ∧ b < w'.heap.size :=
  ⟨(hb.cell (p := ⟨b, o, none⟩) h.2).trans h.1, Nat.lt_of_lt_of_le h.2 hb.size⟩

set_option maxHeartbeats 1000000 in
theorem find_cl (t c a root f k bt bl : Nat) (l0 l : Leaf) (w : World) (S : Nat → Prop) (p : Pool) (h : PoolAt w S a p) (ht : TabSelf w t c a root) (hbt : PtrAt w bt t) (hbl : LeafAt w bl l0) (hf : f < p.n) (h1 : 1 ≤ p.cnt f) (hk : k < 512)
    (hw : word (p.dat f) k = l.pack) (h7 : l.prot ≤ 7) (hl : l.frame < 1024) :
    Calls Tryz.prog 93 (#[.int .i64 (f : Int), .int .i64 (k : Int)] ++ #[.pointer (some ⟨bt, 0, none⟩), .pointer (some ⟨bl, 0, none⟩)]) w fun e w' => e = .returned (.bool false) ∧ (LeafAt w' bl l ∧ Mod (fun b => b = bl) w w') := by
  have c0 : w.cell? ⟨bt, 0, none⟩ = some (.pointer (some ⟨t, 0, none⟩)) := one_block hbt 0
  have hbw : bl < w.heap.size := (Array.getElem?_eq_some_iff.1 hbl).1
  have HBL := Lib.hid hbl
  have hx9 : l.pack < 18446744073709551616 := by have := pack_lt l h7 hl; omega
  have hup := unpack_pack l h7
  have HUP := Lib.hid hup
  have HW := Lib.hid hw
  clear hbt hbl hup hw
  show Calls Tryz.prog 93 #[.int .i64 (f : Int), .int .i64 (k : Int), .pointer (some ⟨bt, 0, none⟩), .pointer (some ⟨bl, 0, none⟩)] w _
  go_enter Tryz.func93, Tryz.ntmps93
  go_wp2_with fail
  refine (tword_any t c a root f k w S p h ht hf h1 hk).mono ?_
  rintro e w1 ⟨rfl, hb1⟩
  rw [HW.out]
  go_wp2_with fail
  refine (tunpack_any l.pack w1 hx9).mono ?_
  rintro e w2 ⟨rfl, hb2⟩
  rw [HUP.out]
  have hz1 := hb1.size
  have hz2 := hb2.size
  have hB2 : Below w.heap.size w w2 := hb1.trans (hb2.mono hz1)
  have hL2 : LeafAt w2 bl l0 := (hB2.block bl hbw).trans HBL.out
  have x0 := one_block hL2 0
  have x1 := one_block hL2 1
  have x2 := one_block hL2 2
  have z0 := one_free hL2 0
  have z1 := one_free hL2 1
  have z2 := one_free hL2 2
  simp at x0 x1 x2
  have HL2 := Lib.hid hL2
  clear hL2
  go_wp2_with fail
  go_ret
  refine ⟨rfl, ?_, (Mod.of hB2).trans (Out.refl _ _) (((mod_set (S := fun b => b = bl) rfl _ _).trans (Out.refl _ _) (mod_set (S := fun b => b = bl) rfl _ _)).trans (Out.refl _ _) (mod_set (S := fun b => b = bl) rfl _ _))⟩
  unfold LeafAt
  have := Joins.block_setCell (i := 2) (Joins.block_setCell (i := 1) (Joins.block_setCell (i := 0) HL2.out (.int .i64 (l.frame : Int))) (.int .u8 (l.prot : Int))) (.bool l.copy)
  simpa using this

theorem way_int (A : Int) (w : World) (h0 : 0 ≤ A) (h1 : A < 18446744073709551616) :
    Calls Tryz.prog 86 #[.int .u64 A] w fun e w' => e = .returned (wayA (A.toNat / 4096)) ∧ Below w.heap.size w w' := by
  obtain ⟨a, rfl⟩ := Int.eq_ofNat_of_zero_le h0
  rw [Int.toNat_natCast]
  exact way_any a w (by omega)

set_option maxRecDepth 100000 in
set_option maxHeartbeats 2000000 in
theorem tat_none (t c a root : Nat) (A : Int) (V : Value) (w : World) (S : Nat → Prop) (p : Pool) (T : Tab) (h : PoolAt w S a p) (ht : TabSelf w t c a root) (htw : t < w.heap.size) (hw : Way p T (A.toNat / 4096)) (hno : T.lf (A.toNat / 4096) = none)
    (hr : T.nd 4 (part (A.toNat / 4096) 4) = some root) (hA0 : 0 ≤ A) (hA : A < 140737488355328) :
    Calls Tryz.prog 92 #[.pointer (some ⟨t, 0, none⟩), .int .u64 A, V] w fun e w' => e = .returned (.int .i64 6) ∧ Below w.heap.size w w' := by
  have c2 : w.cell? ⟨t, 2, none⟩ = some (.int .i64 (root : Int)) := one_block ht 2
  have HT := Lib.hid ht
  have HP := Lib.hid h
  have HN := Lib.hid hno
  have HR := Lib.hid hr
  have HW := Lib.hid hw
  have hA' : A < 18446744073709551616 := by omega
  have HA' := Lib.hid hA'
  clear ht h hno hr hA' hw
  go_enter Tryz.func92, Tryz.ntmps92
  go_wp2_with fail
  refine (tgone_any t c a root _ HT.out).mono ?_
  rintro e w1 ⟨rfl, rfl⟩
  go_wp2_with fail
  go_region_held3 (fun w' => w'.cell? ⟨t, 2, none⟩ = some (.int .i64 (root : Int)) ∧ t < w'.heap.size)
    ((first | (simp [*]; done) | exact keep2 hb2 (by assumption) | exact keep2 hb1 (by assumption)))
    ((first
      | (go_at_call 86; refine (way_int A _ hA0 HA'.out).mono ?_; rintro e w1 ⟨rfl, hb1⟩; have hb1' : Below w.heap.size w w1 := ((Below.refl w.heap.size w).drew).trans hb1)
      | (go_at_call 87; refine (descend_none4 t c a root root (A.toNat / 4096) V _ S p T (HP.out.below hb1') ((hb1'.block t htw).trans HT.out) (Nat.lt_of_lt_of_le htw hb1'.size) HW.out HN.out HR.out).mono ?_; rintro e w2 ⟨rfl, hb2⟩)))
  have hB : Below w.heap.size w w2 := hb1'.trans (hb2.mono hb1'.size)
  go_wp2_with fail
  go_ret
  exact ⟨rfl, hB⟩

theorem tat_big (t c a root : Nat) (A : Int) (V : Value) (w : World) (ht : TabSelf w t c a root) (hA : 140737488355328 ≤ A) :
    Calls Tryz.prog 92 #[.pointer (some ⟨t, 0, none⟩), .int .u64 A, V] w fun e w' => e = .returned (.int .i64 1) ∧ w = w' := by
  have HT := Lib.hid ht
  clear ht
  go_enter Tryz.func92, Tryz.ntmps92
  go_wp2_with fail
  refine (tgone_any t c a root _ HT.out).mono ?_
  rintro e w1 ⟨rfl, rfl⟩
  go_wp2_with fail
  go_ret
  exact ⟨rfl, rfl⟩
theorem tat_nil (A : Int) (V : Value) (w : World) : Calls Tryz.prog 92 #[.pointer none, .int .u64 A, V] w fun e w' => e = .returned (.int .i64 2) ∧ w = w' := by
  go_enter Tryz.func92, Tryz.ntmps92
  go_wp2_with fail
  refine (tgone_nil _).mono ?_
  rintro e w1 ⟨rfl, rfl⟩
  go_wp2_with fail
  go_ret
  exact ⟨rfl, rfl⟩
theorem tat_freed (t : Nat) (A : Int) (V : Value) (w : World) (c1 : w.cell? ⟨t, 1, none⟩ = some (.pointer none)) : Calls Tryz.prog 92 #[.pointer (some ⟨t, 0, none⟩), .int .u64 A, V] w fun e w' => e = .returned (.int .i64 2) ∧ w = w' := by
  go_enter Tryz.func92, Tryz.ntmps92
  go_wp2_with fail
  refine (tgone_freed t _ c1).mono ?_
  rintro e w1 ⟨rfl, rfl⟩
  go_wp2_with fail
  go_ret
  exact ⟨rfl, rfl⟩

set_option maxRecDepth 100000 in
set_option maxHeartbeats 2000000 in
theorem tat_find (t c a root : Nat) (A : Int) (bt bl : Nat)(R : World → World → Prop) (w : World) (S : Nat → Prop) (p : Pool) (T : Tab) (h : PoolAt w S a p) (ht : TabSelf w t c a root) (htw : t < w.heap.size) (hw : Way p T (A.toNat / 4096)) (hups : ∀ m, 1 ≤ m → m ≤ 4 → (T.nd m (part (A.toNat / 4096) m)).isSome = true) (l : Leaf) (q1 : Nat) (hlf : T.lf (A.toNat / 4096) = some l) (hq1 : T.nd 1 (part (A.toNat / 4096) 1) = some q1)
    (hcl : ∀ w1, Below w.heap.size w w1 → Calls Tryz.prog 93 (#[.int .i64 (q1 : Int), .int .i64 ((num (A.toNat / 4096) 1 : Nat) : Int)] ++ #[.pointer (some ⟨bt, 0, none⟩), .pointer (some ⟨bl, 0, none⟩)]) w1 fun e w2 => e = .returned (.bool false) ∧ R w1 w2)
    (hr : T.nd 4 (part (A.toNat / 4096) 4) = some root) (hA0 : 0 ≤ A) (hA : A < 140737488355328) :
    Calls Tryz.prog 92 #[.pointer (some ⟨t, 0, none⟩), .int .u64 A, .func (.func 93) #[] #[.pointer (some ⟨bt, 0, none⟩), .pointer (some ⟨bl, 0, none⟩)]] w fun e w' => e = .returned (.int .i64 0) ∧ ∃ w1, Below w.heap.size w w1 ∧ R w1 w' := by
  have c2 : w.cell? ⟨t, 2, none⟩ = some (.int .i64 (root : Int)) := one_block ht 2
  have HT := Lib.hid ht
  have HP := Lib.hid h
  have HL := Lib.hid hlf
  have HQ := Lib.hid hq1
  have HCL := Lib.hid hcl
  have HU := Lib.hid hups
  have HR := Lib.hid hr
  have HW := Lib.hid hw
  have hA' : A < 18446744073709551616 := by omega
  have HA' := Lib.hid hA'
  clear ht h hlf hq1 hcl hups hr hA' hw
  go_enter Tryz.func92, Tryz.ntmps92
  go_wp2_with fail
  refine (tgone_any t c a root _ HT.out).mono ?_
  rintro e w1 ⟨rfl, rfl⟩
  go_wp2_with fail
  go_region_with
    ((first
      | (go_at_call 86; refine (way_int A _ hA0 HA'.out).mono ?_; rintro e w1 ⟨rfl, hb1⟩; have hb1' : Below w.heap.size w w1 := ((Below.refl w.heap.size w).drew).trans hb1; have c2' : w1.cell? ⟨t, 2, none⟩ = some (.int .i64 (root : Int)) := one_block ((hb1'.block t htw).trans HT.out) 2)
      | (go_at_call 87; refine (descend_find4 t c a root root (A.toNat / 4096) bt bl R _ S p T (HP.out.below hb1') ((hb1'.block t htw).trans HT.out) (Nat.lt_of_lt_of_le htw hb1'.size) HW.out HU.out l q1 HL.out HQ.out (fun w5 hw5 => HCL.out w5 (hb1'.trans (hw5.mono hb1'.size))) HR.out).mono ?_; rintro e w2 ⟨rfl, w5, hb5, hR⟩)))
  all_goals
    go_wp2_with fail
    go_ret
    exact ⟨rfl, w5, hb1'.trans (hb5.mono hb1'.size), hR⟩


end Go.Proofs.YtmkgdgfbdmjeeaaGreatDoor
