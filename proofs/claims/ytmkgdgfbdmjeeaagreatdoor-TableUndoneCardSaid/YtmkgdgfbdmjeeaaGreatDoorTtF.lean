/- Tables: Find. -/
import Derived.Test.YtmkgdgfbdmjeeaaGreatDoorTtE
namespace Go.Proofs.YtmkgdgfbdmjeeaaGreatDoor
open Go.RowKit
set_option linter.unusedSimpArgs false
set_option linter.unusedVariables false

def noLeaf : Leaf := ⟨0, 0, false⟩
def findRes (T : Tab) (A : Int) : Leaf × Int := if 140737488355328 ≤ A then (noLeaf, 1) else match T.lf (A.toNat / 4096) with
  | some l => (l, 0)
  | none => (noLeaf, 6)
/-- What a walk through a tree needs of it. -/
structure Tree (p : Pool) (T : Tab) (root : Nat) : Prop where
  way : ∀ pg, Way p T pg
  ups : ∀ pg l, T.lf pg = some l → ∀ m, 1 ≤ m → m ≤ 4 → (T.nd m (part pg m)).isSome = true
  root : T.nd 4 0 = some root
theorem Tree.top {p : Pool} {T : Tab} {root : Nat} (h : Tree p T root) {A : Int} (h0 : 0 ≤ A) (hA : A < 140737488355328) : T.nd 4 (part (A.toNat / 4096) 4) = some root := by
  rw [part_four _ (by omega)]
  exact h.root
theorem Tab.Good.tree {p : Pool} {t : Tab} {rest : Nat → Nat} {pg0 : Nat} (h : t.Good p rest pg0 4) {root : Nat} (hr : t.nd 4 0 = some root) : Tree p t root :=
  ⟨fun pg => h.way pg, fun pg l hl m h1 h4 => h.ok.leafUp hl m h1 h4, hr⟩

def FindPost (w : World) (bl : Nat) (r : Leaf × Int) (e : Ending) (w' : World) : Prop := e = .returned (.int .i64 r.2) ∧ LeafAt w' bl r.1 ∧ Mod (fun b => b = bl) w w'

theorem tat_res (t c a root bt bl : Nat) (A : Int) (w : World) (S : Nat → Prop) (p : Pool) (T : Tab) (h : PoolAt w S a p) (ht : TabSelf w t c a root) (htw : t < w.heap.size) (hw : Tree p T root) (hA0 : 0 ≤ A)
    (hbt : PtrAt w bt t) (hbl : LeafAt w bl noLeaf) :
    Calls Tryz.prog 92 #[.pointer (some ⟨t, 0, none⟩), .int .u64 A, .func (.func 93) #[] #[.pointer (some ⟨bt, 0, none⟩), .pointer (some ⟨bl, 0, none⟩)]] w (FindPost w bl (findRes T A)) := by
  have hbtw : bt < w.heap.size := (Array.getElem?_eq_some_iff.1 hbt).1
  have hblw : bl < w.heap.size := (Array.getElem?_eq_some_iff.1 hbl).1
  by_cases hbig : 140737488355328 ≤ A
  · have hr : findRes T A = (noLeaf, 1) := by unfold findRes; rw [if_pos hbig]
    rw [hr]
    exact (tat_big t c a root A _ w ht hbig).mono fun e w' ⟨he, hw'⟩ => by
      subst hw'
      exact ⟨he, hbl, Mod.refl _ _⟩
  · have hlt : A < 140737488355328 := by omega
    have htop := hw.top hA0 hlt
    have hwy := hw.way (A.toNat / 4096)
    cases hlf : T.lf (A.toNat / 4096) with
    | none =>
      have hr : findRes T A = (noLeaf, 6) := by unfold findRes; rw [if_neg hbig, hlf]
      rw [hr]
      exact (tat_none t c a root A _ w S p T h ht htw hwy hlf htop hA0 hlt).mono fun e w' ⟨he, hb⟩ => ⟨he, (hb.block bl hblw).trans hbl, Mod.of hb⟩
    | some l =>
      have hr : findRes T A = (l, 0) := by unfold findRes; rw [if_neg hbig, hlf]
      rw [hr]
      have hup := hw.ups _ l hlf
      obtain ⟨q1, hq1⟩ := isSome_of (hup 1 (by omega) (by omega))
      obtain ⟨n1, n2, n3⟩ := hwy.node 1 q1 (by omega) (by omega) hq1
      obtain ⟨p7, pf⟩ := hwy.prot l hlf
      have hfew := hwy.few
      refine (tat_find t c a root A bt bl (fun w1 w2 => LeafAt w2 bl l ∧ Mod (fun b => b = bl) w1 w2) w S p T h ht htw hwy hup l q1 hlf hq1 (fun w1 hb => ?_) htop hA0 hlt).mono fun e w' ⟨he, w1, hb, hl2, hm⟩ => ⟨he, hl2, (Mod.of hb).trans (Out.refl _ _) hm⟩
      exact find_cl t c a root q1 (num (A.toNat / 4096) 1) bt bl noLeaf l w1 S p (h.below hb) ((hb.block t htw).trans ht) ((hb.block bt hbtw).trans hbt) ((hb.block bl hblw).trans hbl) n1 n2 (num_lt _ _) (by rw [n3, Tab.on_one, hlf]) p7 (by omega)

set_option maxRecDepth 100000 in
set_option maxHeartbeats 2000000 in
theorem tfind_any (t c a root : Nat) (A : Int) (w : World) (S : Nat → Prop) (p : Pool) (T : Tab) (h : PoolAt w S a p) (ht : TabSelf w t c a root) (htw : t < w.heap.size) (hw : Tree p T root) (hA0 : 0 ≤ A) :
    Calls Tryz.prog 30 #[.pointer (some ⟨t, 0, none⟩), .int .u64 A] w
      fun e w' => e = .returned (.tuple #[.agg (leafCells (findRes T A).1), .int .i64 (findRes T A).2]) ∧ Below w.heap.size w w' := by
  have HP := Lib.hid h
  have HT := Lib.hid ht
  have HW := Lib.hid hw
  clear h ht
  obtain ⟨w0, hw0⟩ : ∃ w0, w0 = (((w.alloc (.cells #[.pointer (some ⟨t, 0, none⟩)] 54)).alloc (.cells #[.int .i64 0, .int .u8 0, .bool false] 31)).alloc (.cells #[.int .i64 0, .int .u8 0, .bool false] 31)) := ⟨_, rfl⟩
  have hB0 : Below w.heap.size w w0 := by rw [hw0]; exact (((Below.refl _ _).alloc (Nat.le_refl _) _).alloc (by simp) _).alloc (by simp; omega) _
  have hs0 : w0.heap.size = w.heap.size + 1 + 1 + 1 := by rw [hw0]; simp
  have hPt : PtrAt w0 w.heap.size t := by rw [hw0]; exact (Below.heap_alloc _ _ _ (by simp; omega)).trans ((Below.heap_alloc _ _ _ (by simp)).trans (heap_alloc_new w _))
  have hR0 : LeafAt w0 (w.heap.size + 1) noLeaf := by
    rw [hw0]
    have e : (w.alloc (.cells #[.pointer (some ⟨t, 0, none⟩)] 54)).heap.size = w.heap.size + 1 := by simp
    rw [← e]
    exact (Below.heap_alloc _ _ _ (by simp)).trans (heap_alloc_new _ _)
  have hL0 : LeafAt w0 (w.heap.size + 1 + 1) noLeaf := by
    rw [hw0]
    have e : ((w.alloc (.cells #[.pointer (some ⟨t, 0, none⟩)] 54)).alloc (.cells #[.int .i64 0, .int .u8 0, .bool false] 31)).heap.size = w.heap.size + 1 + 1 := by simp
    rw [← e]
    exact heap_alloc_new _ _
  have hres := tat_res t c a root w.heap.size (w.heap.size + 1 + 1) A w0 S p T (HP.out.below hB0) ((hB0.block t htw).trans HT.out) (by omega) HW.out hA0 hPt hL0
  generalize hL : findRes T A = r at *
  have HRES := Lib.hid hres
  have HR0 := Lib.hid hR0
  have HS0 := Lib.hid hs0
  have hs0' : w.heap.size + 1 < w0.heap.size := by omega
  clear hres hR0 hL0 hPt hL hs0
  have HW0 := Lib.hid hw0
  clear hw0
  go_enter Tryz.func30, Tryz.ntmps30
  go_wp2_with fail
  rw [← HW0.out]
  refine (HRES.out).mono ?_
  rintro e w2 ⟨rfl, hl2, hm⟩
  have hz2 := hm.size
  have hR2 : LeafAt w2 (w.heap.size + 1) noLeaf := (hm.block _ hs0' (by omega)).trans HR0.out
  have x0 : w2.cell? ⟨w.heap.size + 1 + 1, 0, none⟩ = some (.int .i64 (r.1.frame : Int)) := one_block hl2 0
  have x1 : w2.cell? ⟨w.heap.size + 1 + 1, 1, none⟩ = some (.int .u8 (r.1.prot : Int)) := one_block hl2 1
  have x2 : w2.cell? ⟨w.heap.size + 1 + 1, 2, none⟩ = some (.bool r.1.copy) := one_block hl2 2
  have y0 : w2.cell? ⟨w.heap.size + 1, 0, none⟩ = some (.int .i64 0) := one_block hR2 0
  have y1 : w2.cell? ⟨w.heap.size + 1, 1, none⟩ = some (.int .u8 0) := one_block hR2 1
  have y2 : w2.cell? ⟨w.heap.size + 1, 2, none⟩ = some (.bool false) := one_block hR2 2
  have z0 := one_free hR2 0
  have z1 := one_free hR2 1
  have z2 := one_free hR2 2
  have hlt : w.heap.size + 1 < w2.heap.size := by omega
  clear hl2 hR2
  have hB : Below w.heap.size w w2 := hB0.trans (hm.below (fun b hb => by omega) (by omega))
  go_wp2_with fail
  exact bodyPost_ret (v := .tuple #[.agg (leafCells r.1), .int .i64 r.2]) (by simp [results, Tryz.results30, go_sem, hlt, y0, y1, y2, z0, z1, z2, leafCells]) rfl ⟨rfl, ((hB.setCell (by show w.heap.size ≤ w.heap.size + 1; omega) _).setCell (by show w.heap.size ≤ w.heap.size + 1; omega) _).setCell (by show w.heap.size ≤ w.heap.size + 1; omega) _⟩

end Go.Proofs.YtmkgdgfbdmjeeaaGreatDoor
