/- The cache: the loose slot that was asked for longest ago. The cache: Take. -/
import Derived.Test.YtmkgdgfbdmjeeaaGreatDoorCaA
import Derived.Test.YtmkgdgfbdmjeeaaGreatDoorTfC
import Derived.Test.YtmkgdgfbdmjeeaaGreatDoorTtA
import Derived.Deep.QuietTactic
import Derived.BigQuiet
import Derived.Lib.QuietBelow
import Derived.Test.YtmkgdgfbdmjeeaaGreatDoorTtG
import Derived.StillTailTactics

namespace Go.Proofs.YtmkgdgfbdmjeeaaGreatDoor
open Go.RowKit Go.Maps Go.WideMaps Go.Sort
open Go.ChangeMaps (setBlock)
set_option linter.unusedSimpArgs false
set_option linter.unusedVariables false

theorem Slot.kv_inj {s t : Slot} (h : s.kv = t.kv) : s = t := by
  have h1 : keyV s.ino s.page = keyV t.ino t.page := congrArg Prod.fst h
  have h2 : heldV s.frame s.asked = heldV t.frame t.asked := congrArg Prod.snd h
  rw [keyV_inj] at h1
  unfold heldV at h2
  simp at h2
  obtain ⟨a, b, c, d⟩ := s
  obtain ⟨a', b', c', d'⟩ := t
  simp only at h1 h2
  obtain ⟨rfl, rfl⟩ := h1
  obtain ⟨h3, rfl⟩ := h2
  have : c = c' := by omega
  subst this
  rfl
theorem RangeIs.mem {w : World} {m r : Nat} {L left : List Slot} (h : RangeIs w m r L left) {s : Slot} (hs : s ∈ left) : s ∈ L := by
  obtain ⟨t, ht, e⟩ := List.mem_map.1 (h.sub s hs)
  rw [← Slot.kv_inj e]
  exact ht
theorem SlotsAt.sole {w : World} {m : Nat} {L : List Slot} (h : SlotsAt w m L) : Sole L := by
  obtain ⟨es, clk, h1⟩ := h
  exact h1.sole
theorem Sole.eq {L : List Slot} (h : Sole L) {s t : Slot} (hs : s ∈ L) (ht : t ∈ L) (he : s.ino = t.ino ∧ s.page = t.page) : s = t := by
  have h1 := find_of_sole h hs
  rw [he.1, he.2, find_of_sole h ht] at h1
  injection h1 with h1
  exact h1.symm

/-- The best of the loose slots that have come. -/
def BestIs (p : Pool) (L left : List Slot) (found : Bool) (bi bp : Int) : Prop :=
  (found = false ∧ ∀ s ∈ L, s ∉ left → countB p s.frame ≠ 1) ∨
  (found = true ∧ ∃ b ∈ L, b.ino = bi ∧ b.page = bp ∧ countB p b.frame = 1 ∧ ∀ s ∈ L, s ∉ left → countB p s.frame = 1 → b.asked ≤ s.asked)
theorem come {L left : List Slot} (h : Sole L) {s x : Slot} (hs : s ∈ L) (hx : x ∈ L) (hn : x ∉ left.filter fun y => !Slot.at s.ino s.page y) : x ∉ left ∨ x = s := by
  by_cases e : x ∈ left
  · right
    have : Slot.at s.ino s.page x = true := by
      cases hc : Slot.at s.ino s.page x with
      | true => rfl
      | false => exact absurd (List.mem_filter.2 ⟨e, by rw [hc]; rfl⟩) hn
    exact h.eq hx hs (Slot.at_iff.1 this)
  · exact .inl e
theorem best_start (p : Pool) (L : List Slot) : BestIs p L L false 0 0 := .inl ⟨rfl, fun s h1 h2 => absurd h1 h2⟩
theorem best_skip {p : Pool} {L left : List Slot} (hL : Sole L) {f : Bool} {bi bp : Int} {s : Slot} (h : BestIs p L left f bi bp) (hs : s ∈ L) (hl : countB p s.frame ≠ 1) : BestIs p L (left.filter fun y => !Slot.at s.ino s.page y) f bi bp := by
  rcases h with ⟨h1, h2⟩ | ⟨h1, b, hb, h2, h3, h4, h5⟩
  · refine .inl ⟨h1, fun x hx hn => ?_⟩
    rcases come hL hs hx hn with h3 | rfl
    · exact h2 x hx h3
    · exact hl
  · refine .inr ⟨h1, b, hb, h2, h3, h4, fun x hx hn hc => ?_⟩
    rcases come hL hs hx hn with h6 | rfl
    · exact h5 x hx h6 hc
    · exact absurd hc hl
theorem best_keep {p : Pool} {L left : List Slot} (hL : Sole L) {b s : Slot} (hb : b ∈ L) (h : BestIs p L left true b.ino b.page) (hs : s ∈ L) (hl : ¬ s.asked < b.asked) : BestIs p L (left.filter fun y => !Slot.at s.ino s.page y) true b.ino b.page := by
  rcases h with ⟨h1, _⟩ | ⟨h1, b', hb', h2, h3, h4, h5⟩
  · cases h1
  · obtain rfl := hL.eq hb' hb ⟨h2, h3⟩
    refine .inr ⟨rfl, b', hb, h2, h3, h4, fun x hx hn hc => ?_⟩
    rcases come hL hs hx hn with h6 | rfl
    · exact h5 x hx h6 hc
    · omega
theorem best_new {p : Pool} {L left : List Slot} (hL : Sole L) {f : Bool} {bi bp : Int} {s : Slot} (h : BestIs p L left f bi bp) (hs : s ∈ L) (hc : countB p s.frame = 1) (hl : f = true → ∃ b ∈ L, b.ino = bi ∧ b.page = bp ∧ s.asked < b.asked) : BestIs p L (left.filter fun y => !Slot.at s.ino s.page y) true s.ino s.page := by
  refine .inr ⟨rfl, s, hs, rfl, rfl, hc, fun x hx hn hcx => ?_⟩
  rcases come hL hs hx hn with h6 | rfl
  · rcases h with ⟨h1, h2⟩ | ⟨h1, b', hb', h2, h3, h4, h5⟩
    · exact absurd hcx (h2 x hx h6)
    · obtain ⟨b, hb, e1, e2, e3⟩ := hl h1
      obtain rfl := hL.eq hb' hb ⟨h2.trans e1.symm, h3.trans e2.symm⟩
      have := h5 x hx h6 hcx
      omega
  · omega

section
variable {ops : Array Oper} {rest : List Oper} {o : Oper} {a : Act} {w : World} {Q : Exit → Act → World → Prop}
theorem wpList_range_slots (hg : o.guard = none) (x : Operand) (hop : o.op = Op.range 133 x) (m : Nat) (L : List Slot) (hx : a.eval x = .map (some m)) (h : SlotsAt w m L)
    (hK : ∀ w', RangeIs w' m w.heap.size L L → Below w.heap.size w w' → w'.heap.size = w.heap.size + 1 → wpList Tryz.prog ops Q rest (a.put o.dst (.pointer (some ⟨w.heap.size, 0, none⟩))) w') :
    wpList Tryz.prog ops Q (o :: rest) a w := by
  refine wpList_plain hg fun K' hK' => ?_
  obtain ⟨w', hrun, r1, r2, r3⟩ := h.range
  unfold Oper.wp
  simp [execOp, hop, hx, hrun, Result.andThen]
  exact hK' _ _ (hK w' r1 r2 r3)
theorem wpList_next_slots (hg : o.guard = none) (it : Operand) (hop : o.op = Op.next it false) (m r : Nat) (L left : List Slot) (hit : a.eval it = .pointer (some ⟨r, 0, none⟩)) (h : RangeIs w m r L left)
    (hDone : left = [] → wpList Tryz.prog ops Q rest (a.put o.dst (.tuple #[.bool false])) w)
    (hMore : ∀ (s : Slot) (w' : World), s ∈ left → RangeIs w' m r L (left.filter fun x => !Slot.at s.ino s.page x) → Mod (fun j => j = r) w w' → w'.heap.size = w.heap.size →
      (Instr.entry (.pointer (some ⟨r, 0, none⟩))).run Tryz.prog w' = .ok (.tuple #[.agg #[.int .i64 s.ino, .int .i64 s.page], .agg #[.int .i64 (s.frame : Int), .int .i64 s.asked]]) w' →
      wpList Tryz.prog ops Q rest (a.put o.dst (.tuple #[.bool true, .agg #[.int .i64 s.ino, .int .i64 s.page], .agg #[.int .i64 (s.frame : Int), .int .i64 s.asked]])) w') :
    wpList Tryz.prog ops Q (o :: rest) a w := by
  refine wpList_plain hg fun K' hK' => ?_
  unfold Oper.wp
  rcases h.next o.type with ⟨h0, hrun⟩ | ⟨s, w', hs, hrun, h1, h2, h3, h4⟩
  · simp [execOp, hop, hit, hrun, Result.andThen]
    exact hK' _ _ (hDone h0)
  · simp [execOp, hop, hit, hrun, Result.andThen]
    exact hK' _ _ (hMore s w' hs h1 h2 h3 h4)
end

theorem SlotsAt.lookS {w : World} {m : Nat} {L : List Slot} (h : SlotsAt w m L) {b : Slot} (hb : b ∈ L) : (Instr.lookup 133 (.map (some m)) (.agg #[.int .i64 b.ino, .int .i64 b.page]) false).run Tryz.prog w = .ok (.agg #[.int .i64 (b.frame : Int), .int .i64 b.asked]) w := by
  have hs := h.sole
  obtain ⟨es, clk, h1⟩ := h
  have h2 := h1.look (h1.wf b hb).1 (h1.wf b hb).2 false
  have h3 := find_of_sole hs hb
  generalize L.find? (Slot.at b.ino b.page) = o at h2 h3
  subst h3
  exact h2
theorem held_asked (x y : Value) (W : World) : (Instr.field 139 (.agg #[x, y]) 1).run Tryz.prog W = .ok y W := by kernel_rfl
theorem held_frame (x y : Value) (W : World) : (Instr.field 139 (.agg #[x, y]) 0).run Tryz.prog W = .ok x W := by kernel_rfl
theorem two_set {w : World} {b : Nat} {x y x' y' : Value} {t : TypeId} (h : w.heap[b]? = some (.cells #[x, y] t (0, 0))) : ((w.setCell ⟨b, 0, none⟩ x').setCell ⟨b, 1, none⟩ y').heap[b]? = some (.cells #[x', y'] t (0, 0)) := by
  have h1 := Joins.block_setCell (i := 0) h x'
  have h2 := Joins.block_setCell (i := 1) h1 y'
  simpa using h2
theorem two_mod (w : World) (b : Nat) (x y : Value) : Mod (fun j => j = b) w ((w.setCell ⟨b, 0, none⟩ x).setCell ⟨b, 1, none⟩ y) := (mod_set (S := fun j => j = b) (b := b) rfl 0 x).trans (Out.refl _ _) (mod_set (S := fun j => j = b) (b := b) rfl 1 y)

/-- A cache in memory: its pool at a, its files at fs, its slots' map at m. -/
def CacheSelf (w : World) (c a fs m : Nat) (clock : Int) : Prop := w.heap[c]? = some (.cells #[.pointer (some ⟨a, 0, none⟩), .pointer (some ⟨fs, 0, none⟩), .map (some m), .int .i64 clock] 135 (0, 0))

set_option maxRecDepth 100000 in
set_option maxHeartbeats 4000000 in
theorem oldest_any (c a fs m : Nat) (clock : Int) (w : World) (S : Nat → Prop) (p : Pool) (L : List Slot) (h : PoolAt w S a p) (hc : CacheSelf w c a fs m clock) (hL : SlotsAt w m L) :
    Calls Tryz.prog 103 #[.pointer (some ⟨c, 0, none⟩)] w fun e w' => ∃ found bi bp, e = .returned (.tuple #[.agg #[.int .i64 bi, .int .i64 bp], .bool found]) ∧ BestIs p L [] found bi bp ∧ Below w.heap.size w w' := by
  have hcw : c < w.heap.size := (Array.getElem?_eq_some_iff.1 hc).1
  have hmw := hL.lt
  have hSole := hL.sole
  obtain ⟨w0, hw0⟩ : ∃ w0, w0 = (w.alloc (.cells #[.int .i64 0, .int .i64 0] 137)).alloc (.cells #[.int .i64 0, .int .i64 0] 137) := ⟨_, rfl⟩
  have hB0 : Below w.heap.size w w0 := by rw [hw0]; exact ((Below.refl _ _).alloc (Nat.le_refl _) _).alloc (by simp) _
  have hs0 : w0.heap.size = w.heap.size + 1 + 1 := by rw [hw0]; simp
  have hR0 : w0.heap[w.heap.size]? = some (.cells #[.int .i64 0, .int .i64 0] 137 (0, 0)) := by rw [hw0]; exact (Below.heap_alloc _ _ _ (by simp)).trans (heap_alloc_new w _)
  have hK0 : w0.heap[w.heap.size + 1]? = some (.cells #[.int .i64 0, .int .i64 0] 137 (0, 0)) := by
    rw [hw0]
    have e : (w.alloc (.cells #[.int .i64 0, .int .i64 0] 137)).heap.size = w.heap.size + 1 := by simp
    rw [← e]
    exact heap_alloc_new _ _
  have hC0 : CacheSelf w0 c a fs m clock := (hB0.block c hcw).trans hc
  have hL0 : SlotsAt w0 m L := hL.same (hB0.block m hmw)
  have c2 : w0.cell? ⟨c, 2, none⟩ = some (.map (some m)) := one_block hC0 2
  have HC := Lib.hid hc
  have HP := Lib.hid h
  have HW0 := Lib.hid hw0
  have HR0 := Lib.hid hR0
  have HK0 := Lib.hid hK0
  have HS := Lib.hid hs0
  have HL0 := Lib.hid hL0
  clear hw0 h hc hL hR0 hK0 hC0 hL0
  go_enter Tryz.func103, Tryz.ntmps103
  go_upto_region 3 with (fail)
  rw [← HW0.out]
  go_wp2_with (first
    | (at_range; refine wpList_range_slots rfl _ rfl m L rfl HL0.out ?_; intro w1 hrg1 hb1 hs1; rw [HS.out] at hrg1 hs1 ⊢; go_frame)
    | fail)
  go_loopw [5] (fun v wr => ∃ left found bi bp, v = .bool found ∧ RangeIs wr m (w.heap.size + 1 + 1) L left ∧ BestIs p L left found bi bp ∧ Below w.heap.size w wr ∧ (w.heap.size + 1 + 1) < wr.heap.size ∧ wr.heap[w.heap.size]? = some (.cells #[.int .i64 0, .int .i64 0] 137 (0, 0)) ∧ wr.heap[w.heap.size + 1]? = some (.cells #[.int .i64 bi, .int .i64 bp] 137 (0, 0)))
    (fun _ wr => leftN wr m (w.heap.size + 1 + 1))
  case atStart =>
    have h9 := HS.out
    exact ⟨L, false, 0, 0, rfl, hrg1, best_start p L, hB0.trans (hb1.mono hB0.size), by omega, (hb1.block _ (by omega)).trans HR0.out, (hb1.block _ (by omega)).trans HK0.out⟩
  case round =>
    obtain ⟨left, found, bi, bp, rfl, hrg, hbest, hb, hlt, hR, hK⟩ := hrel
    have HBE := Lib.hid hbest
    have HR := Lib.hid hR
    have HK := Lib.hid hK
    clear hbest hR hK
    go_wp2_with (first
      | (at_next; refine wpList_next_slots rfl _ rfl m (w.heap.size + 1 + 1) L left rfl hrg ?_ ?_)
      | fail)
    · intro hl0
      subst hl0
      have x0 : wr.cell? ⟨w.heap.size + 1, 0, none⟩ = some (.int .i64 bi) := one_block HK.out 0
      have x1 : wr.cell? ⟨w.heap.size + 1, 1, none⟩ = some (.int .i64 bp) := one_block HK.out 1
      have y0 : wr.cell? ⟨w.heap.size, 0, none⟩ = some (.int .i64 0) := one_block HR.out 0
      have y1 : wr.cell? ⟨w.heap.size, 1, none⟩ = some (.int .i64 0) := one_block HR.out 1
      have z0 := one_free HR.out 0
      have z1 := one_free HR.out 1
      have hlt2 : w.heap.size < wr.heap.size := by have := HS.out; omega
      go_wp2_with fail
      exact bodyPost_ret (v := .tuple #[.agg #[.int .i64 bi, .int .i64 bp], .bool found]) (by simp [results, Tryz.results103, go_sem, hlt2, y0, y1, z0, z1]) rfl ⟨found, bi, bp, rfl, HBE.out, (hb.setCell (Nat.le_refl _) _).setCell (Nat.le_refl _) _⟩
    · intro s w1 hs hrg1 hm1 hs1 hen
      have HRG1 := Lib.hid hrg1
      have HEN := Lib.hid hen
      have hmem := hrg.mem hs
      have hrl := hrg.lt
      go_upto_region 6 with (fail)
      have hb1 : Below w.heap.size w w1 := hb.trans (hm1.below (fun b e => by have := HS.out; omega) hb.size)
      obtain ⟨w2, hw2⟩ : ∃ w2, w2 = (w1.alloc (.cells #[.int .i64 s.ino, .int .i64 s.page] 137)).alloc (.cells #[.int .i64 (s.frame : Int), .int .i64 s.asked] 139) := ⟨_, rfl⟩
      rw [← hw2]
      have hb12 : Below w1.heap.size w1 w2 := by rw [hw2]; exact ((Below.refl _ _).alloc (Nat.le_refl _) _).alloc (by simp) _
      have hB2 : Below w.heap.size w w2 := hb1.trans (hb12.mono hb1.size)
      have hs2 : w2.heap.size = wr.heap.size + 1 + 1 := by rw [hw2]; simp [hs1]
      have hk2 : w2.heap[wr.heap.size]? = some (.cells #[.int .i64 s.ino, .int .i64 s.page] 137 (0, 0)) := by rw [hw2, ← hs1]; exact (Below.heap_alloc _ _ _ (by simp)).trans (heap_alloc_new w1 _)
      have hh2 : w2.heap[wr.heap.size + 1]? = some (.cells #[.int .i64 (s.frame : Int), .int .i64 s.asked] 139 (0, 0)) := by
        rw [hw2, ← hs1]
        have e : (w1.alloc (.cells #[.int .i64 s.ino, .int .i64 s.page] 137)).heap.size = w1.heap.size + 1 := by simp
        rw [← e]
        exact heap_alloc_new _ _
      have hC2 : CacheSelf w2 c a fs m clock := (hB2.block c hcw).trans HC.out
      have hR2 := (hb12.block w.heap.size (by omega)).trans ((hm1.block w.heap.size (by have := HS.out; omega) (by have := HS.out; omega)).trans HR.out)
      have hK2 := (hb12.block (w.heap.size + 1) (by omega)).trans ((hm1.block (w.heap.size + 1) (by have := HS.out; omega) (by have := HS.out; omega)).trans HK.out)
      have hrg2 : RangeIs w2 m (w.heap.size + 1 + 1) L (left.filter fun x => !Slot.at s.ino s.page x) := HRG1.out.same (hb12.block m (by omega)) (hb12.block _ (by omega))
      have d0 : ∀ d os, (grow (redrawn w2 d) os).cell? ⟨c, 0, none⟩ = some (.pointer (some ⟨a, 0, none⟩)) := fun d os => cell_regrown (one_block hC2 0) d os
      have d1 : ∀ d os, (grow (redrawn w2 d) os).cell? ⟨wr.heap.size + 1, 0, none⟩ = some (.int .i64 (s.frame : Int)) := fun d os => cell_regrown (one_block hh2 0) d os
      have hCt := fun d os => Calls.regrown_of ((count_any a (s.frame : Int) (grow (redrawn w2 d) os) S p ((HP.out.below hB2).below (below_regrown w2 d os))).mono fun _ _ ⟨h1, h2⟩ => ⟨h1, h2 ▸ Below.refl _ _⟩)
      have HCt := Lib.hid hCt
      have HC2 := Lib.hid hC2
      have HR2 := Lib.hid hR2
      have HK2 := Lib.hid hK2
      have Hk2 := Lib.hid hk2
      have Hh2 := Lib.hid hh2
      have HRG2 := Lib.hid hrg2
      have HS2 := Lib.hid hs2
      clear hw2 hCt hC2 hR2 hK2 hk2 hh2 hrg2 hs2
      refine wp_region_quiet_below (by kernel_rfl) (by kernel_rfl) ?_; (repeat (go_big_quiet_step ((exact HCt.out _ _)))); refine wpQuiet_nil ?_; intro _ hw'; obtain ⟨⟨dq, osq⟩, hw''⟩ := hw'; subst hw''; have hbq := below_regrown (w2) dq osq; generalize grow (redrawn (w2) dq) osq = wq at hbq ⊢
      clear d0 d1
      have hzq := hbq.size
      have hs2 := HS2.out
      have hC3 : CacheSelf wq c a fs m clock := (hbq.block c (by omega)).trans HC2.out
      have hR3 := (hbq.block w.heap.size (by omega)).trans HR2.out
      have hK3 := (hbq.block (w.heap.size + 1) (by omega)).trans HK2.out
      have hk3 := (hbq.block wr.heap.size (by omega)).trans Hk2.out
      have hh3 := (hbq.block (wr.heap.size + 1) (by omega)).trans Hh2.out
      have hrg3 : RangeIs wq m (w.heap.size + 1 + 1) L (left.filter fun x => !Slot.at s.ino s.page x) := HRG2.out.same (hbq.block m (by omega)) (hbq.block _ (by omega))
      have hB3 := hB2.trans (hbq.mono hB2.size)
      have hleft : (left.filter fun x => !Slot.at s.ino s.page x).length < left.length := by
        exact List.length_filter_lt_length_iff_exists.2 ⟨s, hs, by simp [Slot.at]⟩
      have hltq : w.heap.size + 1 + 1 < wq.heap.size := by omega
      clear hs2
      by_cases hl : countB p (s.frame : Int) = 1
      · have hl' : (((countB p (s.frame : Int) : Nat) : Int) != 1) = false := by rw [hl]; rfl
        have D0 : ∀ d os, (grow (redrawn wq d) os).cell? ⟨c, 2, none⟩ = some (.map (some m)) := fun d os => cell_regrown (one_block hC3 2) d os
        have D1 : ∀ d os, (grow (redrawn wq d) os).cell? ⟨wr.heap.size + 1, 1, none⟩ = some (.int .i64 s.asked) := fun d os => cell_regrown (one_block hh3 1) d os
        have D2 : ∀ d os, (grow (redrawn wq d) os).cell? ⟨w.heap.size + 1, 0, none⟩ = some (.int .i64 bi) := fun d os => cell_regrown (one_block hK3 0) d os
        have D3 : ∀ d os, (grow (redrawn wq d) os).cell? ⟨w.heap.size + 1, 1, none⟩ = some (.int .i64 bp) := fun d os => cell_regrown (one_block hK3 1) d os
        have hqw : wr.heap.size < wq.heap.size := by have := HS2.out; omega
        have hnew : ∀ w', Below wq.heap.size wq w' → RangeIs w' m (w.heap.size + 1 + 1) L (left.filter fun x => !Slot.at s.ino s.page x) ∧ Below w.heap.size w w' ∧ w.heap.size + 1 + 1 < w'.heap.size ∧ w'.heap[w.heap.size]? = some (.cells #[.int .i64 0, .int .i64 0] 137 (0, 0)) ∧ w'.heap[w.heap.size + 1]? = some (.cells #[.int .i64 bi, .int .i64 bp] 137 (0, 0)) ∧ w'.heap[wr.heap.size]? = some (.cells #[.int .i64 s.ino, .int .i64 s.page] 137 (0, 0)) := fun w' hm => ⟨hrg3.same (hm.block m (by omega)) (hm.block _ (by omega)), hB3.trans (hm.mono (by omega)), by have := hm.size; omega, (hm.block _ (by omega)).trans hR3, (hm.block _ (by omega)).trans hK3, (hm.block _ (by omega)).trans hk3⟩
        have hmapq := hrg3.slots
        have HNEW := Lib.hid hnew
        have HMAP := Lib.hid hmapq
        clear hk3 hh3 hC3 hK3 hR3 hrg3 hnew hmapq
        cases found with
        | false =>
          go_upto_region 7 with (fail)
          refine wp_region_quiet_below (by kernel_rfl) (by kernel_rfl) ?_; (repeat (go_big_quiet_step ((fail)))); refine wpQuiet_nil ?_; intro _ hw'; obtain ⟨⟨dq, osq⟩, hw''⟩ := hw'; subst hw''; have hb7 := below_regrown (wq) dq osq; generalize grow (redrawn (wq) dq) osq = w7 at hb7 ⊢
          clear D0 D1 D2 D3
          obtain ⟨g1, g2, g3, g4, g5, g6⟩ := HNEW.out _ hb7
          have k0 : w7.cell? ⟨wr.heap.size, 0, none⟩ = some (.int .i64 s.ino) := one_block g6 0
          have k1 : w7.cell? ⟨wr.heap.size, 1, none⟩ = some (.int .i64 s.page) := one_block g6 1
          have b0 : w7.cell? ⟨w.heap.size + 1, 0, none⟩ = some (.int .i64 bi) := one_block g5 0
          have b1 : w7.cell? ⟨w.heap.size + 1, 1, none⟩ = some (.int .i64 bp) := one_block g5 1
          have f0 := one_free g5 0
          have f1 := one_free g5 1
          have G1 := Lib.hid g1
          have G4 := Lib.hid g4
          have G5 := Lib.hid g5
          clear g1 g4 g5 g6
          go_wp2_with fail
          go_roundw
          case rel => exact ⟨_, true, s.ino, s.page, rfl, G1.out.same ((two_mod _ _ _ _).block m (by omega) (by omega)) ((two_mod _ _ _ _).block _ (by omega) (by omega)), best_new hSole HBE.out hmem hl (fun e => by cases e), g2.trans ((two_mod _ _ _ _).below (fun b e => by omega) (by omega)), by have := (two_mod w7 (w.heap.size + 1) (.int .i64 s.ino) (.int .i64 s.page)).size; omega, ((two_mod _ _ _ _).block _ (by omega) (by omega)).trans G4.out, two_set G5.out⟩
          case measure => rw [(G1.out.same ((two_mod _ _ _ _).block m (by omega) (by omega)) ((two_mod _ _ _ _).block _ (by omega) (by omega))).leftN, hrg.leftN]; exact hleft
        | true =>
          rcases HBE.out with ⟨h9, _⟩ | ⟨_, b, hbm, rfl, rfl, hbc, hbo⟩
          · cases h9
          have hlk : ∀ d os, (Instr.lookup 133 (.map (some m)) (.agg #[.int .i64 b.ino, .int .i64 b.page]) false).run Tryz.prog (grow (redrawn wq d) os) = .ok (.agg #[.int .i64 (b.frame : Int), .int .i64 b.asked]) (grow (redrawn wq d) os) := fun d os => (HMAP.out.same ((below_regrown wq d os).block m (by omega))).lookS hbm
          have hfl := held_asked (.int .i64 (b.frame : Int)) (.int .i64 b.asked)
          by_cases hless : s.asked < b.asked
          · have hd : decide (s.asked < b.asked) = true := decide_eq_true hless
            go_upto_region 7 with (fail)
            refine wp_region_quiet_below (by kernel_rfl) (by kernel_rfl) ?_; (repeat (go_big_quiet_step ((fail)))); refine wpQuiet_nil ?_; intro _ hw'; obtain ⟨⟨dq, osq⟩, hw''⟩ := hw'; subst hw''; have hb7 := below_regrown (wq) dq osq; generalize grow (redrawn (wq) dq) osq = w7 at hb7 ⊢
            clear D0 D1 D2 D3
            obtain ⟨g1, g2, g3, g4, g5, g6⟩ := HNEW.out _ hb7
            have k0 : w7.cell? ⟨wr.heap.size, 0, none⟩ = some (.int .i64 s.ino) := one_block g6 0
            have k1 : w7.cell? ⟨wr.heap.size, 1, none⟩ = some (.int .i64 s.page) := one_block g6 1
            have b0 : w7.cell? ⟨w.heap.size + 1, 0, none⟩ = some (.int .i64 b.ino) := one_block g5 0
            have b1 : w7.cell? ⟨w.heap.size + 1, 1, none⟩ = some (.int .i64 b.page) := one_block g5 1
            have f0 := one_free g5 0
            have f1 := one_free g5 1
            have G1 := Lib.hid g1
            have G4 := Lib.hid g4
            have G5 := Lib.hid g5
            clear g1 g4 g5 g6
            go_wp2_with fail
            go_roundw
            case rel => exact ⟨_, true, s.ino, s.page, rfl, G1.out.same ((two_mod _ _ _ _).block m (by omega) (by omega)) ((two_mod _ _ _ _).block _ (by omega) (by omega)), best_new hSole HBE.out hmem hl (fun e => ⟨b, hbm, rfl, rfl, hless⟩), g2.trans ((two_mod _ _ _ _).below (fun b e => by omega) (by omega)), by have := (two_mod w7 (w.heap.size + 1) (.int .i64 s.ino) (.int .i64 s.page)).size; omega, ((two_mod _ _ _ _).block _ (by omega) (by omega)).trans G4.out, two_set G5.out⟩
            case measure => rw [(G1.out.same ((two_mod _ _ _ _).block m (by omega) (by omega)) ((two_mod _ _ _ _).block _ (by omega) (by omega))).leftN, hrg.leftN]; exact hleft
          · have hd : decide (s.asked < b.asked) = false := decide_eq_false hless
            go_upto_region 7 with (fail)
            refine wp_region_quiet_below (by kernel_rfl) (by kernel_rfl) ?_; (repeat (go_big_quiet_step ((fail)))); refine wpQuiet_nil ?_; intro _ hw'; obtain ⟨⟨dq, osq⟩, hw''⟩ := hw'; subst hw''; have hb7 := below_regrown (wq) dq osq; generalize grow (redrawn (wq) dq) osq = w7 at hb7 ⊢
            clear D0 D1 D2 D3
            obtain ⟨g1, g2, g3, g4, g5, g6⟩ := HNEW.out _ hb7
            have G1 := Lib.hid g1
            have G4 := Lib.hid g4
            have G5 := Lib.hid g5
            clear g1 g4 g5 g6
            go_wp2_with fail
            go_roundw
            case rel => exact ⟨_, true, b.ino, b.page, rfl, G1.out, best_keep hSole hbm HBE.out hmem hless, g2, g3, G4.out, G5.out⟩
            case measure => rw [G1.out.leftN, hrg.leftN]; exact hleft
      · have hl' : (((countB p (s.frame : Int) : Nat) : Int) != 1) = true := by rw [bne_iff_ne]; omega
        have HK3 := Lib.hid hK3
        have HR3 := Lib.hid hR3
        have HRG3 := Lib.hid hrg3
        clear hk3 hh3 hC3 hK3 hR3 hrg3
        go_wp2_with fail
        go_roundw
        case rel => exact ⟨_, found, bi, bp, rfl, HRG3.out, best_skip hSole HBE.out hmem hl, hB3, hltq, HR3.out, HK3.out⟩
        case measure => rw [HRG3.out.leftN, hrg.leftN]; exact hleft

end Go.Proofs.YtmkgdgfbdmjeeaaGreatDoor

namespace Go.Proofs.YtmkgdgfbdmjeeaaGreatDoor
open Go.RowKit Go.Maps Go.WideMaps Go.Sort
open Go.ChangeMaps (setBlock)
set_option linter.unusedSimpArgs false
set_option linter.unusedVariables false

/-- A cache in memory: its pool (in S), its slots. -/
structure CacheAt (w : World) (S : Nat → Prop) (c a fs m : Nat) (clock : Int) (p : Pool) (L : List Slot) : Prop where
  pool : PoolAt w S a p
  self : CacheSelf w c a fs m clock
  slots : SlotsAt w m L
  noC : ¬ S c
  noM : ¬ S m
theorem CacheAt.lts {w : World} {S : Nat → Prop} {c a fs m : Nat} {clock : Int} {p : Pool} {L : List Slot} (h : CacheAt w S c a fs m clock p L) : c < w.heap.size ∧ m < w.heap.size ∧ c ≠ m ∧ m ≠ 0 := by
  have h1 : c < w.heap.size := (Array.getElem?_eq_some_iff.1 h.self).1
  refine ⟨h1, h.slots.lt, fun e => ?_, fun e => ?_⟩
  · obtain ⟨es, clk, h2⟩ := h.slots
    have h3 := h2.block
    have h4 := h.self
    unfold CacheSelf at h4
    rw [← e, h4] at h3
    cases h3
  · obtain ⟨es, clk, h2⟩ := h.slots
    have h3 := h2.block
    have h4 := h.pool.tab 0 (by decide)
    unfold World.cell? at h4
    rw [e] at h3
    simp [h3] at h4
theorem CacheAt.mod {w w' : World} {S T : Nat → Prop} {c a fs m : Nat} {clock : Int} {p : Pool} {L : List Slot} (h : CacheAt w S c a fs m clock p L) (hm : Mod T w w') (hS : ∀ b, S b → ¬ T b) (h0 : ¬ T 0) (hc : ¬ T c) (hmm : ¬ T m) : CacheAt w' S c a fs m clock p L :=
  ⟨h.pool.mod hm hS h0, (hm.block c h.lts.1 hc).trans h.self, h.slots.same (hm.block m h.lts.2.1 hmm), h.noC, h.noM⟩
theorem CacheAt.below {w w' : World} {S : Nat → Prop} {c a fs m : Nat} {clock : Int} {p : Pool} {L : List Slot} (h : CacheAt w S c a fs m clock p L) (hb : Below w.heap.size w w') : CacheAt w' S c a fs m clock p L :=
  ⟨h.pool.below hb, (hb.block c h.lts.1).trans h.self, h.slots.same (hb.block m h.lts.2.1), h.noC, h.noM⟩
/-- The pool alone is turned. -/
theorem CacheAt.turn {w w' : World} {S S' : Nat → Prop} {c a fs m : Nat} {clock : Int} {p p' : Pool} {L : List Slot} (h : CacheAt w S c a fs m clock p L) (hm : Mod S w w') (hp : PoolAt w' S' a p') (ho : Out S S' w) : CacheAt w' S' c a fs m clock p' L :=
  ⟨hp, (hm.block c h.lts.1 h.noC).trans h.self, h.slots.same (hm.block m h.lts.2.1 h.noM), fun e => by
    rcases ho c e with h1 | h1
    · exact h.noC h1
    · have := h.lts.1; omega, fun e => by
    rcases ho m e with h1 | h1
    · exact h.noM h1
    · have := h.lts.2.1; omega⟩
/-- The pool's blocks, and the slots'. -/
def Both (S : Nat → Prop) (m : Nat) : Nat → Prop := fun b => S b ∨ b = m

/-- What Take comes to. -/
inductive TakeRes (p : Pool) (L : List Slot) : Int → Nat → Pool → List Slot → Prop
  | free (f : Nat) : p.lowest = some f → TakeRes p L 0 f (p.takeAt f) L
  | loose (s : Slot) : p.lowest = none → s ∈ L → s.frame < p.n → p.cnt s.frame = 1 → (∀ t ∈ L, countB p t.frame = 1 → s.asked ≤ t.asked) → TakeRes p L 0 s.frame ((p.down s.frame).takeAt s.frame) (L.filter fun x => !Slot.at s.ino s.page x)
  | none : p.lowest = none → (∀ t ∈ L, countB p t.frame ≠ 1) → TakeRes p L 4 0 p L
def CTakePost (w : World) (S : Nat → Prop) (c a fs m : Nat) (clock : Int) (p : Pool) (L : List Slot) (e : Ending) (w' : World) : Prop :=
  ∃ r f p' L' S', e = .returned (.tuple #[.int .i64 (f : Nat), .int .i64 r]) ∧ CacheAt w' S' c a fs m clock p' L' ∧ Mod (Both S m) w w' ∧ Out S S' w ∧ TakeRes p L r f p' L'

theorem countB_one {p : Pool} {g : Nat} (h : countB p (g : Int) = 1) : g < p.n ∧ p.cnt g = 1 := by
  unfold countB at h
  by_cases h1 : takenB p (g : Int) = true
  · rw [if_pos h1, Int.toNat_natCast] at h
    rw [takenB_nat] at h1
    exact ⟨(of_decide_eq_true h1).1, h⟩
  · rw [if_neg h1] at h
    cases h
theorem lowest_down {p : Pool} {g : Nat} (h : p.lowest = none) (hg : g < p.n) (h1 : p.cnt g = 1) : (p.down g).lowest = some g := by
  have hn := lowest_none h
  refine lowest_is hg ?_ fun x hx => ?_
  · simp only [Pool.down, upd_same]; omega
  · simp only [Pool.down, upd_ne _ _ (show x ≠ g by omega)]
    exact hn x (by omega)

theorem wpList_delete_slots {ops : Array Oper} {rest : List Oper} {o : Oper} {A : Act} {w : World} {Q : Exit → Act → World → Prop} (hg : o.guard = none) (x y : Operand) (hop : o.op = Op.call { callee := Callee.builtin Builtin.delete, args := #[x, y], argTypes := #[133, 137] })
    (m : Nat) (L : List Slot) (s : Slot) (hx : A.eval x = .map (some m)) (hy : A.eval y = .agg #[.int .i64 s.ino, .int .i64 s.page]) (h : SlotsAt w m L) (hs : s ∈ L)
    (hK : ∀ w', SlotsAt w' m (L.filter fun x => !Slot.at s.ino s.page x) → Mod (fun j => j = m) w w' → w'.heap.size = w.heap.size → wpList Tryz.prog ops Q rest (A.put o.dst (.tuple #[])) w') :
    wpList Tryz.prog ops Q (o :: rest) A w := by
  refine wpList_plain hg fun K' hK' => ?_
  obtain ⟨es, clk, h1⟩ := h
  obtain ⟨es', hrun, h2⟩ := h1.drop hs o.type
  have hrun' : (Builtin.delete_ #[133, 137] o.type #[.map (some m), .agg #[.int .i64 s.ino, .int .i64 s.page]]).run Tryz.prog w = .ok (.tuple #[]) (setBlock w m (.map es' clk)) := hrun
  unfold Oper.wp
  simp [execOp, hop, resolve, invoke, builtin, hx, hy, hrun', Result.andThen]
  exact hK' _ _ (hK _ ⟨es', clk, h2⟩ setBlock_mod setBlock_size)

set_option maxRecDepth 100000 in
set_option maxHeartbeats 4000000 in
theorem ctake_any (c a fs m : Nat) (clock : Int) (w : World) (S : Nat → Prop) (p : Pool) (L : List Slot) (h : CacheAt w S c a fs m clock p L) :
    Calls Tryz.prog 45 #[.pointer (some ⟨c, 0, none⟩)] w (CTakePost w S c a fs m clock p L) := by
  obtain ⟨hcw, hmw, hcm, hm0⟩ := h.lts
  have c0 : w.cell? ⟨c, 0, none⟩ = some (.pointer (some ⟨a, 0, none⟩)) := one_block h.self 0
  have H := Lib.hid h
  clear h
  cases hl : p.lowest with
  | some g =>
    have HL := Lib.hid hl
    clear hl
    go_enter Tryz.func45, Tryz.ntmps45
    go_wp2_with fail
    refine (take_some a g w S p H.out.pool HL.out).mono ?_
    rintro e w1 ⟨rfl, S', hP1, hm1, ho1⟩
    go_wp2_with fail
    go_ret2
    exact ⟨0, g, _, L, S', rfl, H.out.turn hm1 hP1 ho1, hm1.sub fun b hb => .inl hb, ho1, .free g HL.out⟩
  | none =>
    have HL := Lib.hid hl
    clear hl
    go_enter Tryz.func45, Tryz.ntmps45
    go_wp2_with fail
    refine (take_none a w S p H.out.pool HL.out).mono ?_
    rintro e w1 ⟨rfl, rfl⟩
    go_wp2_with fail
    refine (oldest_any c a fs m clock w S p L H.out.pool H.out.self H.out.slots).mono ?_
    rintro e w2 ⟨found, bi, bp, rfl, hbest, hb2⟩
    cases found with
    | false =>
      have HB := Lib.hid hbest
      clear hbest
      go_wp2_with fail
      go_ret2
      rcases HB.out with ⟨_, h2⟩ | ⟨h1, _⟩
      · exact ⟨4, 0, p, L, S, rfl, H.out.below (hb2.alloc hb2.size _), Mod.of (hb2.alloc hb2.size _), Out.refl _ _, .none HL.out fun t ht => h2 t ht (by simp)⟩
      · cases h1
    | true =>
      rcases hbest with ⟨h9, _⟩ | ⟨_, s, hs, rfl, rfl, hc1, hmin⟩
      · cases h9
      go_upto_region 9 with (fail)
      obtain ⟨hsn, hs1⟩ := countB_one hc1
      have hmin' : ∀ t ∈ L, countB p t.frame = 1 → s.asked ≤ t.asked := fun t ht h2 => hmin t ht (by simp) h2
      obtain ⟨w3, hw3⟩ : ∃ w3, w3 = w2.alloc (.cells #[.int .i64 s.ino, .int .i64 s.page] 137) := ⟨_, rfl⟩
      rw [← hw3]
      have hB3 : Below w.heap.size w w3 := by rw [hw3]; exact hb2.alloc hb2.size _
      have hk3 : w3.heap[w2.heap.size]? = some (.cells #[.int .i64 s.ino, .int .i64 s.page] 137 (0, 0)) := by rw [hw3]; exact heap_alloc_new _ _
      have hs3 : w2.heap.size < w3.heap.size := by rw [hw3]; simp
      have hz2 := hb2.size
      have hC3 := H.out.below hB3
      have d0 : w3.cell? ⟨c, 0, none⟩ = some (.pointer (some ⟨a, 0, none⟩)) := one_block hC3.self 0
      have d1 : w3.cell? ⟨c, 2, none⟩ = some (.map (some m)) := one_block hC3.self 2
      have d2 : w3.cell? ⟨w2.heap.size, 0, none⟩ = some (.int .i64 s.ino) := one_block hk3 0
      have d3 : w3.cell? ⟨w2.heap.size, 1, none⟩ = some (.int .i64 s.page) := one_block hk3 1
      have hlk := (hC3.slots.same (w' := w3.drew) rfl).lookS hs
      have hfl := held_frame (.int .i64 (s.frame : Int)) (.int .i64 s.asked)
      have hkS : ¬ S w2.heap.size := fun e => by have := H.out.pool.low _ e; omega
      have HC3 := Lib.hid hC3
      have HK3 := Lib.hid hk3
      have HMIN := Lib.hid hmin'
      have HS := Lib.hid hs
      clear hw3 hC3 hk3 hmin hmin' c0 hs
      go_still_tail 11, (by kernel_rfl)
      go_wp2_with fail
      refine (down_yes a s.frame _ S p (HC3.out.pool.drew) hsn (by omega)).mono ?_
      rintro e w4 ⟨rfl, hP4, hm4'⟩
      have hm4 := hm4'.undrew
      have hz4 := hm4.size
      have hC4 := HC3.out.turn hm4 hP4 (Out.refl _ _)
      have hk4 := (hm4.block _ hs3 hkS).trans HK3.out
      clear d0 d1 d2 d3 hlk hfl hm4'
      have d1 : w4.cell? ⟨c, 2, none⟩ = some (.map (some m)) := one_block hC4.self 2
      have d2 : w4.cell? ⟨w2.heap.size, 0, none⟩ = some (.int .i64 s.ino) := one_block hk4 0
      have d3 : w4.cell? ⟨w2.heap.size, 1, none⟩ = some (.int .i64 s.page) := one_block hk4 1
      have hsl4 := hC4.slots.same (w' := w4.drew) rfl
      have HC4 := Lib.hid hC4
      clear hC4 hk4
      go_upto_region 10 with (fail)
      go_still_tail 5, (by kernel_rfl)
      go_upto_region 11 with ((first
        | (refine wpList_delete_slots rfl _ _ rfl m L s rfl rfl hsl4 HS.out ?_; intro w5 hsl5 hm5' hs5; go_frame)
        | fail))
      have hm5 := hm5'.undrew
      have hP5 := HC4.out.pool.mod hm5 (fun b hb e => H.out.noM (e ▸ hb)) (fun e => hm0 e.symm)
      have hC5 : CacheAt w5 S c a fs m clock (p.down s.frame) (L.filter fun x => !Slot.at s.ino s.page x) := ⟨hP5, (hm5.block c HC4.out.lts.1 hcm).trans HC4.out.self, hsl5, H.out.noC, H.out.noM⟩
      have c0 : w5.cell? ⟨c, 0, none⟩ = some (.pointer (some ⟨a, 0, none⟩)) := one_block hC5.self 0
      have HC5 := Lib.hid hC5
      clear hC5 hP5 hsl5 hsl4 d1 d2 d3
      go_wp2_with fail
      refine (take_some a s.frame w5 S _ HC5.out.pool (lowest_down HL.out hsn hs1)).mono ?_
      rintro e w6 ⟨rfl, S', hP6, hm6, ho6⟩
      go_wp2_with fail
      go_ret2
      have hmall : Mod (Both S m) w w5 := (Mod.of hB3).trans (Out.refl _ _) ((hm4.sub fun b hb => .inl hb).trans (Out.refl _ _) (hm5.sub fun b hb => .inr hb))
      exact ⟨0, s.frame, _, _, S', rfl, HC5.out.turn hm6 hP6 ho6, hmall.trans (Out.refl _ _) (hm6.sub fun b hb => .inl hb), fun b hb => (ho6 b hb).imp id fun e => Nat.le_trans hmall.size e, .loose s HL.out HS.out hsn hs1 HMIN.out⟩

end Go.Proofs.YtmkgdgfbdmjeeaaGreatDoor
