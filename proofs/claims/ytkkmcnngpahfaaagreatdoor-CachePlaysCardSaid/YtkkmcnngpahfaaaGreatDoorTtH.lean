/- Tables: Set, whole. -/
import Derived.Test.YtkkmcnngpahfaaaGreatDoorTtZ
import Derived.Test.YtkkmcnngpahfaaaGreatDoorTbA
namespace Go.Proofs.YtkkmcnngpahfaaaGreatDoor
open Go.RowKit Go.Sort
set_option linter.unusedSimpArgs false
set_option linter.unusedVariables false

/-- What Set comes to: its answer, the pool, the tree. -/
def setRes (p : Pool) (T : Tab) (A fr q : Int) (cp : Bool) : Int × Pool × Tab :=
  if 7 < q ∨ countB p fr = 0 then (1, p, T)
  else if 140737488355328 ≤ A then (1, p, T)
  else match T.lf (A.toNat / 4096), T.nd 1 (part (A.toNat / 4096) 1) with
    | some was, some g => (0, ((p.up fr.toNat).down was.frame).store g (setWord (p.dat g) (num (A.toNat / 4096) 1) (Leaf.pack ⟨fr.toNat, q.toNat, cp⟩)), T.lay (A.toNat / 4096) (some ⟨fr.toNat, q.toNat, cp⟩))
    | _, _ => (6, p, T)

def SetPost (w : World) (S : Nat → Prop) (a : Nat) (r : Int × Pool × Tab) (e : Ending) (w' : World) : Prop := e = .returned (.int .i64 r.1) ∧ PoolAt w' S a r.2.1 ∧ Mod S w w'

set_option maxRecDepth 100000 in
set_option maxHeartbeats 2000000 in
theorem tset_bad (t c a root : Nat) (A fr q : Int) (cp : Bool) (w : World) (S : Nat → Prop) (p : Pool) (h : PoolAt w S a p) (ht : TabSelf w t c a root) (htw : t < w.heap.size) (hbad : 7 < q ∨ countB p fr = 0) :
    Calls Tryz.prog 33 #[.pointer (some ⟨t, 0, none⟩), .int .u64 A, .agg #[.int .i64 fr, .int .u8 q, .bool cp]] w fun e w' => e = .returned (.int .i64 1) ∧ Below w.heap.size w w' := by
  have HP := Lib.hid h
  have HT := Lib.hid ht
  obtain ⟨w0, hw0⟩ : ∃ w0, w0 = (w.alloc (.cells #[.pointer (some ⟨t, 0, none⟩)] 54)).alloc (.cells #[.int .i64 fr, .int .u8 q, .bool cp] 31) := ⟨_, rfl⟩
  have hB0 : Below w.heap.size w w0 := by rw [hw0]; exact ((Below.refl _ _).alloc (Nat.le_refl _) _).alloc (by simp) _
  have hP0 : PtrAt w0 w.heap.size t := by rw [hw0]; exact (Below.heap_alloc _ _ _ (by simp)).trans (heap_alloc_new w _)
  have hL0 : w0.heap[w.heap.size + 1]? = some (.cells #[.int .i64 fr, .int .u8 q, .bool cp] 31 (0, 0)) := by
    rw [hw0]
    have e : (w.alloc (.cells #[.pointer (some ⟨t, 0, none⟩)] 54)).heap.size = w.heap.size + 1 := by simp
    rw [← e]
    exact heap_alloc_new _ _
  have hT0 : TabSelf w0 t c a root := (hB0.block t htw).trans ht
  have d0 : ∀ d os, (grow (redrawn w0 d) os).cell? ⟨w.heap.size, 0, none⟩ = some (.pointer (some ⟨t, 0, none⟩)) := fun d os => cell_regrown (one_block hP0 0) d os
  have d1 : ∀ d os, (grow (redrawn w0 d) os).cell? ⟨w.heap.size + 1, 0, none⟩ = some (.int .i64 fr) := fun d os => cell_regrown (one_block hL0 0) d os
  have d2 : ∀ d os, (grow (redrawn w0 d) os).cell? ⟨w.heap.size + 1, 1, none⟩ = some (.int .u8 q) := fun d os => cell_regrown (one_block hL0 1) d os
  have d3 : ∀ d os, (grow (redrawn w0 d) os).cell? ⟨t, 1, none⟩ = some (.pointer (some ⟨a, 0, none⟩)) := fun d os => cell_regrown (one_block hT0 1) d os
  have hG := fun d os => Calls.regrown_of ((tgone_any t c a root (grow (redrawn w0 d) os) (((below_regrown w0 d os).block t (Nat.lt_of_lt_of_le htw hB0.size)).trans hT0)).mono fun _ _ ⟨h1, h2⟩ => ⟨h1, h2 ▸ Below.refl _ _⟩)
  have hC := fun d os => Calls.regrown_of ((count_any a fr (grow (redrawn w0 d) os) S p ((h.below hB0).below (below_regrown w0 d os))).mono fun _ _ ⟨h1, h2⟩ => ⟨h1, h2 ▸ Below.refl _ _⟩)
  have HG := Lib.hid hG
  have HC := Lib.hid hC
  have HW0 := Lib.hid hw0
  clear hw0 h ht hP0 hL0 hT0 hG hC
  by_cases hq : 7 < q
  · have hq' : decide (7 < q) = true := decide_eq_true hq
    clear hbad
    go_enter Tryz.func33, Tryz.ntmps33
    go_upto_region 1 with (fail)
    rw [← HW0.out]
    refine wp_region_quiet_below (by kernel_rfl) (by kernel_rfl) ?_; (repeat (go_big_quiet_step ((first | exact HG.out _ _ | exact HC.out _ _)))); refine wpQuiet_nil ?_; intro _ hw'; obtain ⟨⟨dq, osq⟩, hw''⟩ := hw'; subst hw''; have hbq := below_regrown (w0) dq osq; generalize grow (redrawn (w0) dq) osq = wq at hbq ⊢
    clear d0 d1 d2 d3
    go_wp2_with fail
    go_ret
    exact ⟨rfl, hB0.trans (hbq.mono hB0.size)⟩
  · have hc0 := hbad.resolve_left hq
    have hq' : decide (7 < q) = false := decide_eq_false hq
    have hcz : (((countB p fr : Nat) : Int) == 0) = true := by rw [hc0]; rfl
    clear hbad hc0
    go_enter Tryz.func33, Tryz.ntmps33
    go_upto_region 1 with (fail)
    rw [← HW0.out]
    refine wp_region_quiet_below (by kernel_rfl) (by kernel_rfl) ?_; (repeat (go_big_quiet_step ((first | exact HG.out _ _ | exact HC.out _ _)))); refine wpQuiet_nil ?_; intro _ hw'; obtain ⟨⟨dq, osq⟩, hw''⟩ := hw'; subst hw''; have hbq := below_regrown (w0) dq osq; generalize grow (redrawn (w0) dq) osq = wq at hbq ⊢
    clear d0 d1 d2 d3
    go_wp2_with fail
    go_ret
    exact ⟨rfl, hB0.trans (hbq.mono hB0.size)⟩

theorem safe_set {p : Pool} {f x g : Nat} (h : 2 ≤ p.cnt g ∨ (g ≠ x ∧ 1 ≤ p.cnt g)) : 1 ≤ ((p.up f).down x).cnt g := by
  have h1 : p.cnt g ≤ (p.up f).cnt g := by
    by_cases e : g = f
    · subst e; simp only [Pool.up, upd_same]; omega
    · simp only [Pool.up, upd_ne _ _ e]; omega
  rcases h with h | ⟨h2, h3⟩
  · by_cases e : g = x
    · subst e; simp only [Pool.down, upd_same]; omega
    · simp only [Pool.down, upd_ne _ _ e]; omega
  · simp only [Pool.down, upd_ne _ _ h2]; omega

theorem tat_setres (t c a root bt bl pg0 : Nat) (A : Int) (l : Leaf) (w : World) (S : Nat → Prop) (p : Pool) (T : Tab) (rest : Nat → Nat) (h : PoolAt w S a p) (ht : TabSelf w t c a root) (htS : ¬ S t) (hg : T.Good p rest pg0 4) (hr : T.nd 4 0 = some root) (hA0 : 0 ≤ A)
    (hbt : PtrAt w bt t) (hbtS : ¬ S bt) (hbl : LeafAt w bl l) (hblS : ¬ S bl) (h7 : l.prot ≤ 7) (hlf : l.frame < p.n) (hlc : 1 ≤ p.cnt l.frame) (hcap : p.cnt l.frame + 1 < 1000000000000) :
    Calls Tryz.prog 80 #[.pointer (some ⟨t, 0, none⟩), .int .u64 A, .func (.func 90) #[] #[.pointer (some ⟨bt, 0, none⟩), .pointer (some ⟨bl, 0, none⟩)]] w (SetPost w S a (setRes p T A (l.frame : Int) (l.prot : Int) l.copy)) := by
  have htw : t < w.heap.size := (Array.getElem?_eq_some_iff.1 ht).1
  have hbtw : bt < w.heap.size := (Array.getElem?_eq_some_iff.1 hbt).1
  have hblw : bl < w.heap.size := (Array.getElem?_eq_some_iff.1 hbl).1
  have hw := hg.tree hr
  have hgood : ¬ (7 < (l.prot : Int) ∨ countB p (l.frame : Int) = 0) := by
    rw [countB_nat hlf]
    omega
  unfold setRes
  rw [if_neg hgood]
  by_cases hbig : 140737488355328 ≤ A
  · rw [if_pos hbig]
    exact (tat_big t c a root A _ w ht hbig).mono fun e w' ⟨he, hw'⟩ => by
      subst hw'
      exact ⟨he, h, Mod.refl _ _⟩
  · rw [if_neg hbig]
    have hlt : A < 140737488355328 := by omega
    have htop := hw.top hA0 hlt
    have hwy := hw.way (A.toNat / 4096)
    cases hlf2 : T.lf (A.toNat / 4096) with
    | none =>
      have e : (match (none : Option Leaf), T.nd 1 (part (A.toNat / 4096) 1) with
        | some was, some g => ((0 : Int), ((p.up (l.frame : Int).toNat).down was.frame).store g (setWord (p.dat g) (num (A.toNat / 4096) 1) (Leaf.pack ⟨(l.frame : Int).toNat, (l.prot : Int).toNat, l.copy⟩)), T.lay (A.toNat / 4096) (some ⟨(l.frame : Int).toNat, (l.prot : Int).toNat, l.copy⟩))
        | _, _ => (6, p, T)) = (6, p, T) := rfl
      rw [e]
      exact (tat_none t c a root A _ w S p T h ht htw hwy hlf2 htop hA0 hlt).mono fun e w' ⟨he, hb⟩ => ⟨he, h.below hb, Mod.of hb⟩
    | some was =>
      have hup := hw.ups _ was hlf2
      obtain ⟨q1, hq1⟩ := isSome_of (hup 1 (by omega) (by omega))
      obtain ⟨n1, n2, n3⟩ := hwy.node 1 q1 (by omega) (by omega) hq1
      obtain ⟨p7, pf, pc⟩ := hg.leafOf hlf2
      rw [hq1]
      simp only [Int.toNat_natCast]
      have hfew := hwy.few
      refine (tat_yes (bt := bt) (bl := bl) (.inr (.inr ⟨rfl, rfl⟩)) t c a root A (fun w1 w2 => PoolAt w2 S a (((p.up l.frame).down was.frame).store q1 (setWord (p.dat q1) (num (A.toNat / 4096) 1) l.pack)) ∧ Mod S w1 w2) w S p T h ht htw hwy hup was q1 hlf2 hq1 (fun w1 hb => ?_) htop hA0 hlt).mono fun e w' ⟨he, w1, hb, hp, hm⟩ => ⟨he, hp, (Mod.of hb).trans (Out.refl _ _) hm⟩
      exact set_cl t c a root q1 (num (A.toNat / 4096) 1) bt bl l was w1 S p (h.below hb) ((hb.block t htw).trans ht) htS (Nat.lt_of_lt_of_le htw hb.size) ((hb.block bt hbtw).trans hbt) hbtS ((hb.block bl hblw).trans hbl) hblS n1 n2 (num_lt _ _) (by rw [n3, Tab.on_one, hlf2]) p7 pf pc h7 hlf hlc hcap hfew (safe_set (hg.safe hlf2 hq1))

set_option maxRecDepth 100000 in
set_option maxHeartbeats 2000000 in
theorem tset_good (t c a root pg0 : Nat) (A : Int) (l : Leaf) (w : World) (S : Nat → Prop) (p : Pool) (T : Tab) (rest : Nat → Nat) (h : PoolAt w S a p) (ht : TabSelf w t c a root) (htS : ¬ S t) (hg : T.Good p rest pg0 4) (hr : T.nd 4 0 = some root) (hA0 : 0 ≤ A)
    (h7 : l.prot ≤ 7) (hlf : l.frame < p.n) (hlc : 1 ≤ p.cnt l.frame) (hcap : p.cnt l.frame + 1 < 1000000000000)
    (fr q : Int) (hfr : fr = (l.frame : Int)) (hqq : q = (l.prot : Int)) :
    Calls Tryz.prog 33 #[.pointer (some ⟨t, 0, none⟩), .int .u64 A, .agg #[.int .i64 fr, .int .u8 q, .bool l.copy]] w (SetPost w S a (setRes p T A fr q l.copy)) := by
  have htw : t < w.heap.size := (Array.getElem?_eq_some_iff.1 ht).1
  obtain ⟨w0, hw0⟩ : ∃ w0, w0 = (w.alloc (.cells #[.pointer (some ⟨t, 0, none⟩)] 54)).alloc (.cells #[.int .i64 fr, .int .u8 q, .bool l.copy] 31) := ⟨_, rfl⟩
  have hB0 : Below w.heap.size w w0 := by rw [hw0]; exact ((Below.refl _ _).alloc (Nat.le_refl _) _).alloc (by simp) _
  have hs0 : w0.heap.size = w.heap.size + 1 + 1 := by rw [hw0]; simp
  have hP0 : PtrAt w0 w.heap.size t := by rw [hw0]; exact (Below.heap_alloc _ _ _ (by simp)).trans (heap_alloc_new w _)
  have hL0 : LeafAt w0 (w.heap.size + 1) l := by
    rw [hw0]
    have e : (w.alloc (.cells #[.pointer (some ⟨t, 0, none⟩)] 54)).heap.size = w.heap.size + 1 := by simp
    unfold LeafAt
    rw [← e, ← hfr, ← hqq]
    exact heap_alloc_new _ _
  have hT0 : TabSelf w0 t c a root := (hB0.block t htw).trans ht
  have d0 : ∀ d os, (grow (redrawn w0 d) os).cell? ⟨w.heap.size, 0, none⟩ = some (.pointer (some ⟨t, 0, none⟩)) := fun d os => cell_regrown (one_block hP0 0) d os
  have d1 : ∀ d os, (grow (redrawn w0 d) os).cell? ⟨w.heap.size + 1, 0, none⟩ = some (.int .i64 fr) := fun d os => by rw [hfr]; exact cell_regrown (one_block hL0 0) d os
  have d2 : ∀ d os, (grow (redrawn w0 d) os).cell? ⟨w.heap.size + 1, 1, none⟩ = some (.int .u8 q) := fun d os => by rw [hqq]; exact cell_regrown (one_block hL0 1) d os
  have d3 : ∀ d os, (grow (redrawn w0 d) os).cell? ⟨t, 1, none⟩ = some (.pointer (some ⟨a, 0, none⟩)) := fun d os => cell_regrown (one_block hT0 1) d os
  have hG := fun d os => Calls.regrown_of ((tgone_any t c a root (grow (redrawn w0 d) os) (((below_regrown w0 d os).block t (Nat.lt_of_lt_of_le htw hB0.size)).trans hT0)).mono fun _ _ ⟨h1, h2⟩ => ⟨h1, h2 ▸ Below.refl _ _⟩)
  have hC := fun d os => Calls.regrown_of ((count_any a fr (grow (redrawn w0 d) os) S p ((h.below hB0).below (below_regrown w0 d os))).mono fun _ _ ⟨h1, h2⟩ => ⟨h1, h2 ▸ Below.refl _ _⟩)
  have hcz : (((countB p fr : Nat) : Int) == 0) = false := by rw [hfr, countB_nat hlf, beq_eq_false_iff_ne]; omega
  have hq' : decide (7 < q) = false := by rw [hqq]; exact decide_eq_false (by omega)
  have HG := Lib.hid hG
  have HFR := Lib.hid hfr
  have HQ := Lib.hid hqq
  have HC := Lib.hid hC
  have HW0 := Lib.hid hw0
  have HP := Lib.hid (h.below hB0)
  have HT0 := Lib.hid hT0
  have HPt := Lib.hid hP0
  have HL := Lib.hid hL0
  have HGood := Lib.hid hg
  have HR := Lib.hid hr
  have b1 : ¬ S w.heap.size := fun e => by have := h.low _ e; omega
  have b2 : ¬ S (w.heap.size + 1) := fun e => by have := h.low _ e; omega
  have hwq : w.heap.size + 1 < w0.heap.size := by omega
  clear hw0 h ht hP0 hL0 hT0 hG hC hg hr hs0 hfr hqq
  go_enter Tryz.func33, Tryz.ntmps33
  go_upto_region 1 with (fail)
  rw [← HW0.out]
  refine wp_region_quiet_below (by kernel_rfl) (by kernel_rfl) ?_; (repeat (go_big_quiet_step ((first | exact HG.out _ _ | exact HC.out _ _)))); refine wpQuiet_nil ?_; intro _ hw'; obtain ⟨⟨dq, osq⟩, hw''⟩ := hw'; subst hw''; have hbq := below_regrown (w0) dq osq; generalize grow (redrawn (w0) dq) osq = wq at hbq ⊢
  clear d0 d1 d2 d3
  have hzq := hbq.size
  have hPq : PtrAt wq w.heap.size t := (hbq.block _ (by omega)).trans HPt.out
  have d0 : wq.cell? ⟨w.heap.size, 0, none⟩ = some (.pointer (some ⟨t, 0, none⟩)) := one_block hPq 0
  have HPq := Lib.hid hPq
  clear hPq
  go_wp2_with fail
  refine (tat_setres t c a root w.heap.size (w.heap.size + 1) pg0 A l wq S p T rest (HP.out.below hbq) ((hbq.block t (by omega)).trans HT0.out) htS HGood.out HR.out hA0 HPq.out b1 ((hbq.block _ hwq).trans HL.out) b2 h7 hlf hlc hcap).mono ?_
  rintro e w2 ⟨rfl, hp2, hm2⟩
  go_wp2_with fail
  go_ret
  rw [HFR.out, HQ.out]
  exact ⟨rfl, hp2, (Mod.of (hB0.trans (hbq.mono hB0.size))).trans (Out.refl _ _) hm2⟩

end Go.Proofs.YtkkmcnngpahfaaaGreatDoor
