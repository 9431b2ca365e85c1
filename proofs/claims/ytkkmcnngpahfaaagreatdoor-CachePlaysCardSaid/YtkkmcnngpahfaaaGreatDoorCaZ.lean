/- The cache: the loose slot that was asked for longest ago. The cache: Take. The cache and a table in plain Lean: frames taken, and what is counted. Frames taken one behind the other, and given up again. Plain. Frames that were taken become nodes, one below the other; a leaf is laid. Plain. The table with a root alone. Plain. The cache's Get. Plain. The cache: Drop. -/
import Derived.Test.YtkkmcnngpahfaaaGreatDoorCaA
import Derived.Test.YtkkmcnngpahfaaaGreatDoorTfZ
import Derived.Test.YtkkmcnngpahfaaaGreatDoorTtZ
import Derived.Deep.QuietTactic
import Derived.BigQuiet
import Derived.Lib.QuietBelow
import Derived.StillTailTactics
import Derived.Test.YtkkmcnngpahfaaaGreatDoorTbA

namespace Go.Proofs.YtkkmcnngpahfaaaGreatDoor
open Go.RowKit Go.Maps Go.WideMaps Go.Sort
open Go.ChangeMaps (setBlock)
set_option linter.unusedSimpArgs false
set_option linter.unusedVariables false

theorem Slot.kv_inj {s t : Slot} (h : s.kv = t.kv) : s = t := by
  have h1 : keyV s.ino s.page = keyV t.ino t.page := congrArg Prod.fst h
  have h2 : heldV s.frame s.asked = heldV t.frame t.asked := congrArg Prod.snd h
  rw [keyV_inj] at h1
  unfold heldV at h2
  simp at h2
  obtain ⟨a, b, c, d⟩ := s
  obtain ⟨a', b', c', d'⟩ := t
  simp only at h1 h2
  obtain ⟨rfl, rfl⟩ := h1
  obtain ⟨h3, rfl⟩ := h2
  have : c = c' := by omega
  subst this
  rfl
theorem RangeIs.mem {w : World} {m r : Nat} {L left : List Slot} (h : RangeIs w m r L left) {s : Slot} (hs : s ∈ left) : s ∈ L := by
  obtain ⟨t, ht, e⟩ := List.mem_map.1 (h.sub s hs)
  rw [← Slot.kv_inj e]
  exact ht
theorem SlotsAt.sole {w : World} {m : Nat} {L : List Slot} (h : SlotsAt w m L) : Sole L := by
  obtain ⟨es, clk, h1⟩ := h
  exact h1.sole
theorem Sole.eq {L : List Slot} (h : Sole L) {s t : Slot} (hs : s ∈ L) (ht : t ∈ L) (he : s.ino = t.ino ∧ s.page = t.page) : s = t := by
  have h1 := find_of_sole h hs
  rw [he.1, he.2, find_of_sole h ht] at h1
  injection h1 with h1
  exact h1.symm

/-- The best of the loose slots that have come. -/
def BestIs (p : Pool) (L left : List Slot) (found : Bool) (bi bp : Int) : Prop :=
  (found = false ∧ ∀ s ∈ L, s ∉ left → countB p s.frame ≠ 1) ∨
  (found = true ∧ ∃ b ∈ L, b.ino = bi ∧ b.page = bp ∧ countB p b.frame = 1 ∧ ∀ s ∈ L, s ∉ left → countB p s.frame = 1 → b.asked ≤ s.asked)
theorem come {L left : List Slot} (h : Sole L) {s x : Slot} (hs : s ∈ L) (hx : x ∈ L) (hn : x ∉ left.filter fun y => !Slot.at s.ino s.page y) : x ∉ left ∨ x = s := by
  by_cases e : x ∈ left
  · right
    have : Slot.at s.ino s.page x = true := by
      cases hc : Slot.at s.ino s.page x with
      | true => rfl
      | false => exact absurd (List.mem_filter.2 ⟨e, by rw [hc]; rfl⟩) hn
    exact h.eq hx hs (Slot.at_iff.1 this)
  · exact .inl e
theorem best_start (p : Pool) (L : List Slot) : BestIs p L L false 0 0 := .inl ⟨rfl, fun s h1 h2 => absurd h1 h2⟩
theorem best_skip {p : Pool} {L left : List Slot} (hL : Sole L) {f : Bool} {bi bp : Int} {s : Slot} (h : BestIs p L left f bi bp) (hs : s ∈ L) (hl : countB p s.frame ≠ 1) : BestIs p L (left.filter fun y => !Slot.at s.ino s.page y) f bi bp := by
  rcases h with ⟨h1, h2⟩ | ⟨h1, b, hb, h2, h3, h4, h5⟩
  · refine .inl ⟨h1, fun x hx hn => ?_⟩
    rcases come hL hs hx hn with h3 | rfl
    · exact h2 x hx h3
    · exact hl
  · refine .inr ⟨h1, b, hb, h2, h3, h4, fun x hx hn hc => ?_⟩
    rcases come hL hs hx hn with h6 | rfl
    · exact h5 x hx h6 hc
    · exact absurd hc hl
theorem best_keep {p : Pool} {L left : List Slot} (hL : Sole L) {b s : Slot} (hb : b ∈ L) (h : BestIs p L left true b.ino b.page) (hs : s ∈ L) (hl : ¬ s.asked < b.asked) : BestIs p L (left.filter fun y => !Slot.at s.ino s.page y) true b.ino b.page := by
  rcases h with ⟨h1, _⟩ | ⟨h1, b', hb', h2, h3, h4, h5⟩
  · cases h1
  · obtain rfl := hL.eq hb' hb ⟨h2, h3⟩
    refine .inr ⟨rfl, b', hb, h2, h3, h4, fun x hx hn hc => ?_⟩
    rcases come hL hs hx hn with h6 | rfl
    · exact h5 x hx h6 hc
    · omega
theorem best_new {p : Pool} {L left : List Slot} (hL : Sole L) {f : Bool} {bi bp : Int} {s : Slot} (h : BestIs p L left f bi bp) (hs : s ∈ L) (hc : countB p s.frame = 1) (hl : f = true → ∃ b ∈ L, b.ino = bi ∧ b.page = bp ∧ s.asked < b.asked) : BestIs p L (left.filter fun y => !Slot.at s.ino s.page y) true s.ino s.page := by
  refine .inr ⟨rfl, s, hs, rfl, rfl, hc, fun x hx hn hcx => ?_⟩
  rcases come hL hs hx hn with h6 | rfl
  · rcases h with ⟨h1, h2⟩ | ⟨h1, b', hb', h2, h3, h4, h5⟩
    · exact absurd hcx (h2 x hx h6)
    · obtain ⟨b, hb, e1, e2, e3⟩ := hl h1
      obtain rfl := hL.eq hb' hb ⟨h2.trans e1.symm, h3.trans e2.symm⟩
      have := h5 x hx h6 hcx
      omega
  · omega

section
variable {ops : Array Oper} {rest : List Oper} {o : Oper} {a : Act} {w : World} {Q : Exit → Act → World → Prop}
theorem wpList_range_slots (hg : o.guard = none) (x : Operand) (hop : o.op = Op.range 155 x) (m : Nat) (L : List Slot) (hx : a.eval x = .map (some m)) (h : SlotsAt w m L)
    (hK : ∀ w', RangeIs w' m w.heap.size L L → Below w.heap.size w w' → w'.heap.size = w.heap.size + 1 → wpList Tryz.prog ops Q rest (a.put o.dst (.pointer (some ⟨w.heap.size, 0, none⟩))) w') :
    wpList Tryz.prog ops Q (o :: rest) a w := by
  refine wpList_plain hg fun K' hK' => ?_
  obtain ⟨w', hrun, r1, r2, r3⟩ := h.range
  unfold Oper.wp
  simp [execOp, hop, hx, hrun, Result.andThen]
  exact hK' _ _ (hK w' r1 r2 r3)
theorem wpList_next_slots (hg : o.guard = none) (it : Operand) (hop : o.op = Op.next it false) (m r : Nat) (L left : List Slot) (hit : a.eval it = .pointer (some ⟨r, 0, none⟩)) (h : RangeIs w m r L left)
    (hDone : left = [] → wpList Tryz.prog ops Q rest (a.put o.dst (.tuple #[.bool false])) w)
    (hMore : ∀ (s : Slot) (w' : World), s ∈ left → RangeIs w' m r L (left.filter fun x => !Slot.at s.ino s.page x) → Mod (fun j => j = r) w w' → w'.heap.size = w.heap.size →
      (Instr.entry (.pointer (some ⟨r, 0, none⟩))).run Tryz.prog w' = .ok (.tuple #[.agg #[.int .i64 s.ino, .int .i64 s.page], .agg #[.int .i64 (s.frame : Int), .int .i64 s.asked]]) w' →
      wpList Tryz.prog ops Q rest (a.put o.dst (.tuple #[.bool true, .agg #[.int .i64 s.ino, .int .i64 s.page], .agg #[.int .i64 (s.frame : Int), .int .i64 s.asked]])) w') :
    wpList Tryz.prog ops Q (o :: rest) a w := by
  refine wpList_plain hg fun K' hK' => ?_
  unfold Oper.wp
  rcases h.next o.type with ⟨h0, hrun⟩ | ⟨s, w', hs, hrun, h1, h2, h3, h4⟩
  · simp [execOp, hop, hit, hrun, Result.andThen]
    exact hK' _ _ (hDone h0)
  · simp [execOp, hop, hit, hrun, Result.andThen]
    exact hK' _ _ (hMore s w' hs h1 h2 h3 h4)
end

theorem SlotsAt.lookS {w : World} {m : Nat} {L : List Slot} (h : SlotsAt w m L) {b : Slot} (hb : b ∈ L) : (Instr.lookup 155 (.map (some m)) (.agg #[.int .i64 b.ino, .int .i64 b.page]) false).run Tryz.prog w = .ok (.agg #[.int .i64 (b.frame : Int), .int .i64 b.asked]) w := by
  have hs := h.sole
  obtain ⟨es, clk, h1⟩ := h
  have h2 := h1.look (h1.wf b hb).1 (h1.wf b hb).2 false
  have h3 := find_of_sole hs hb
  generalize L.find? (Slot.at b.ino b.page) = o at h2 h3
  subst h3
  exact h2
theorem held_asked (x y : Value) (W : World) : (Instr.field 181 (.agg #[x, y]) 1).run Tryz.prog W = .ok y W := by kernel_rfl
theorem held_frame (x y : Value) (W : World) : (Instr.field 181 (.agg #[x, y]) 0).run Tryz.prog W = .ok x W := by kernel_rfl
theorem two_set {w : World} {b : Nat} {x y x' y' : Value} {t : TypeId} (h : w.heap[b]? = some (.cells #[x, y] t (0, 0))) : ((w.setCell ⟨b, 0, none⟩ x').setCell ⟨b, 1, none⟩ y').heap[b]? = some (.cells #[x', y'] t (0, 0)) := by
  have h1 := Joins.block_setCell (i := 0) h x'
  have h2 := Joins.block_setCell (i := 1) h1 y'
  simpa using h2
theorem two_mod (w : World) (b : Nat) (x y : Value) : Mod (fun j => j = b) w ((w.setCell ⟨b, 0, none⟩ x).setCell ⟨b, 1, none⟩ y) := (mod_set (S := fun j => j = b) (b := b) rfl 0 x).trans (Out.refl _ _) (mod_set (S := fun j => j = b) (b := b) rfl 1 y)

/-- A cache in memory: its pool at a, its files at fs, its slots' map at m. -/
def CacheSelf (w : World) (c a fs m : Nat) (clock : Int) : Prop := w.heap[c]? = some (.cells #[.pointer (some ⟨a, 0, none⟩), .pointer (some ⟨fs, 0, none⟩), .map (some m), .int .i64 clock] 157 (0, 0))

set_option maxRecDepth 100000 in
set_option maxHeartbeats 4000000 in
theorem oldest_any (c a fs m : Nat) (clock : Int) (w : World) (S : Nat → Prop) (p : Pool) (L : List Slot) (h : PoolAt w S a p) (hc : CacheSelf w c a fs m clock) (hL : SlotsAt w m L) :
    Calls Tryz.prog 91 #[.pointer (some ⟨c, 0, none⟩)] w fun e w' => ∃ found bi bp, e = .returned (.tuple #[.agg #[.int .i64 bi, .int .i64 bp], .bool found]) ∧ BestIs p L [] found bi bp ∧ Below w.heap.size w w' := by
  have hcw : c < w.heap.size := (Array.getElem?_eq_some_iff.1 hc).1
  have hmw := hL.lt
  have hSole := hL.sole
  obtain ⟨w0, hw0⟩ : ∃ w0, w0 = (w.alloc (.cells #[.int .i64 0, .int .i64 0] 177)).alloc (.cells #[.int .i64 0, .int .i64 0] 177) := ⟨_, rfl⟩
  have hB0 : Below w.heap.size w w0 := by rw [hw0]; exact ((Below.refl _ _).alloc (Nat.le_refl _) _).alloc (by simp) _
  have hs0 : w0.heap.size = w.heap.size + 1 + 1 := by rw [hw0]; simp
  have hR0 : w0.heap[w.heap.size]? = some (.cells #[.int .i64 0, .int .i64 0] 177 (0, 0)) := by rw [hw0]; exact (Below.heap_alloc _ _ _ (by simp)).trans (heap_alloc_new w _)
  have hK0 : w0.heap[w.heap.size + 1]? = some (.cells #[.int .i64 0, .int .i64 0] 177 (0, 0)) := by
    rw [hw0]
    have e : (w.alloc (.cells #[.int .i64 0, .int .i64 0] 177)).heap.size = w.heap.size + 1 := by simp
    rw [← e]
    exact heap_alloc_new _ _
  have hC0 : CacheSelf w0 c a fs m clock := (hB0.block c hcw).trans hc
  have hL0 : SlotsAt w0 m L := hL.same (hB0.block m hmw)
  have c2 : w0.cell? ⟨c, 2, none⟩ = some (.map (some m)) := one_block hC0 2
  have HC := Lib.hid hc
  have HP := Lib.hid h
  have HW0 := Lib.hid hw0
  have HR0 := Lib.hid hR0
  have HK0 := Lib.hid hK0
  have HS := Lib.hid hs0
  have HL0 := Lib.hid hL0
  clear hw0 h hc hL hR0 hK0 hC0 hL0
  go_enter Tryz.func91, Tryz.ntmps91
  go_upto_region 3 with (fail)
  rw [← HW0.out]
  go_wp2_with (first
    | (at_range; refine wpList_range_slots rfl _ rfl m L rfl HL0.out ?_; intro w1 hrg1 hb1 hs1; rw [HS.out] at hrg1 hs1 ⊢; go_frame)
    | fail)
  go_loopw [5] (fun v wr => ∃ left found bi bp, v = .bool found ∧ RangeIs wr m (w.heap.size + 1 + 1) L left ∧ BestIs p L left found bi bp ∧ Below w.heap.size w wr ∧ (w.heap.size + 1 + 1) < wr.heap.size ∧ wr.heap[w.heap.size]? = some (.cells #[.int .i64 0, .int .i64 0] 177 (0, 0)) ∧ wr.heap[w.heap.size + 1]? = some (.cells #[.int .i64 bi, .int .i64 bp] 177 (0, 0)))
    (fun _ wr => leftN wr m (w.heap.size + 1 + 1))
  case atStart =>
    have h9 := HS.out
    exact ⟨L, false, 0, 0, rfl, hrg1, best_start p L, hB0.trans (hb1.mono hB0.size), by omega, (hb1.block _ (by omega)).trans HR0.out, (hb1.block _ (by omega)).trans HK0.out⟩
  case round =>
    obtain ⟨left, found, bi, bp, rfl, hrg, hbest, hb, hlt, hR, hK⟩ := hrel
    have HBE := Lib.hid hbest
    have HR := Lib.hid hR
    have HK := Lib.hid hK
    clear hbest hR hK
    go_wp2_with (first
      | (at_next; refine wpList_next_slots rfl _ rfl m (w.heap.size + 1 + 1) L left rfl hrg ?_ ?_)
      | fail)
    · intro hl0
      subst hl0
      have x0 : wr.cell? ⟨w.heap.size + 1, 0, none⟩ = some (.int .i64 bi) := one_block HK.out 0
      have x1 : wr.cell? ⟨w.heap.size + 1, 1, none⟩ = some (.int .i64 bp) := one_block HK.out 1
      have y0 : wr.cell? ⟨w.heap.size, 0, none⟩ = some (.int .i64 0) := one_block HR.out 0
      have y1 : wr.cell? ⟨w.heap.size, 1, none⟩ = some (.int .i64 0) := one_block HR.out 1
      have z0 := one_free HR.out 0
      have z1 := one_free HR.out 1
      have hlt2 : w.heap.size < wr.heap.size := by have := HS.out; omega
      go_wp2_with fail
      exact bodyPost_ret (v := .tuple #[.agg #[.int .i64 bi, .int .i64 bp], .bool found]) (by simp [results, Tryz.results91, go_sem, hlt2, y0, y1, z0, z1]) rfl ⟨found, bi, bp, rfl, HBE.out, (hb.setCell (Nat.le_refl _) _).setCell (Nat.le_refl _) _⟩
    · intro s w1 hs hrg1 hm1 hs1 hen
      have HRG1 := Lib.hid hrg1
      have HEN := Lib.hid hen
      have hmem := hrg.mem hs
      have hrl := hrg.lt
      go_upto_region 6 with (fail)
      have hb1 : Below w.heap.size w w1 := hb.trans (hm1.below (fun b e => by have := HS.out; omega) hb.size)
      obtain ⟨w2, hw2⟩ : ∃ w2, w2 = (w1.alloc (.cells #[.int .i64 s.ino, .int .i64 s.page] 177)).alloc (.cells #[.int .i64 (s.frame : Int), .int .i64 s.asked] 181) := ⟨_, rfl⟩
      rw [← hw2]
      have hb12 : Below w1.heap.size w1 w2 := by rw [hw2]; exact ((Below.refl _ _).alloc (Nat.le_refl _) _).alloc (by simp) _
      have hB2 : Below w.heap.size w w2 := hb1.trans (hb12.mono hb1.size)
      have hs2 : w2.heap.size = wr.heap.size + 1 + 1 := by rw [hw2]; simp [hs1]
      have hk2 : w2.heap[wr.heap.size]? = some (.cells #[.int .i64 s.ino, .int .i64 s.page] 177 (0, 0)) := by rw [hw2, ← hs1]; exact (Below.heap_alloc _ _ _ (by simp)).trans (heap_alloc_new w1 _)
      have hh2 : w2.heap[wr.heap.size + 1]? = some (.cells #[.int .i64 (s.frame : Int), .int .i64 s.asked] 181 (0, 0)) := by
        rw [hw2, ← hs1]
        have e : (w1.alloc (.cells #[.int .i64 s.ino, .int .i64 s.page] 177)).heap.size = w1.heap.size + 1 := by simp
        rw [← e]
        exact heap_alloc_new _ _
      have hC2 : CacheSelf w2 c a fs m clock := (hB2.block c hcw).trans HC.out
      have hR2 := (hb12.block w.heap.size (by omega)).trans ((hm1.block w.heap.size (by have := HS.out; omega) (by have := HS.out; omega)).trans HR.out)
      have hK2 := (hb12.block (w.heap.size + 1) (by omega)).trans ((hm1.block (w.heap.size + 1) (by have := HS.out; omega) (by have := HS.out; omega)).trans HK.out)
      have hrg2 : RangeIs w2 m (w.heap.size + 1 + 1) L (left.filter fun x => !Slot.at s.ino s.page x) := HRG1.out.same (hb12.block m (by omega)) (hb12.block _ (by omega))
      have d0 : ∀ d os, (grow (redrawn w2 d) os).cell? ⟨c, 0, none⟩ = some (.pointer (some ⟨a, 0, none⟩)) := fun d os => cell_regrown (one_block hC2 0) d os
      have d1 : ∀ d os, (grow (redrawn w2 d) os).cell? ⟨wr.heap.size + 1, 0, none⟩ = some (.int .i64 (s.frame : Int)) := fun d os => cell_regrown (one_block hh2 0) d os
      have hCt := fun d os => Calls.regrown_of ((count_any a (s.frame : Int) (grow (redrawn w2 d) os) S p ((HP.out.below hB2).below (below_regrown w2 d os))).mono fun _ _ ⟨h1, h2⟩ => ⟨h1, h2 ▸ Below.refl _ _⟩)
      have HCt := Lib.hid hCt
      have HC2 := Lib.hid hC2
      have HR2 := Lib.hid hR2
      have HK2 := Lib.hid hK2
      have Hk2 := Lib.hid hk2
      have Hh2 := Lib.hid hh2
      have HRG2 := Lib.hid hrg2
      have HS2 := Lib.hid hs2
      clear hw2 hCt hC2 hR2 hK2 hk2 hh2 hrg2 hs2
      refine wp_region_quiet_below (by kernel_rfl) (by kernel_rfl) ?_; (repeat (go_big_quiet_step ((exact HCt.out _ _)))); refine wpQuiet_nil ?_; intro _ hw'; obtain ⟨⟨dq, osq⟩, hw''⟩ := hw'; subst hw''; have hbq := below_regrown (w2) dq osq; generalize grow (redrawn (w2) dq) osq = wq at hbq ⊢
      clear d0 d1
      have hzq := hbq.size
      have hs2 := HS2.out
      have hC3 : CacheSelf wq c a fs m clock := (hbq.block c (by omega)).trans HC2.out
      have hR3 := (hbq.block w.heap.size (by omega)).trans HR2.out
      have hK3 := (hbq.block (w.heap.size + 1) (by omega)).trans HK2.out
      have hk3 := (hbq.block wr.heap.size (by omega)).trans Hk2.out
      have hh3 := (hbq.block (wr.heap.size + 1) (by omega)).trans Hh2.out
      have hrg3 : RangeIs wq m (w.heap.size + 1 + 1) L (left.filter fun x => !Slot.at s.ino s.page x) := HRG2.out.same (hbq.block m (by omega)) (hbq.block _ (by omega))
      have hB3 := hB2.trans (hbq.mono hB2.size)
      have hleft : (left.filter fun x => !Slot.at s.ino s.page x).length < left.length := by
        exact List.length_filter_lt_length_iff_exists.2 ⟨s, hs, by simp [Slot.at]⟩
      have hltq : w.heap.size + 1 + 1 < wq.heap.size := by omega
      clear hs2
      by_cases hl : countB p (s.frame : Int) = 1
      · have hl' : (((countB p (s.frame : Int) : Nat) : Int) != 1) = false := by rw [hl]; rfl
        have D0 : ∀ d os, (grow (redrawn wq d) os).cell? ⟨c, 2, none⟩ = some (.map (some m)) := fun d os => cell_regrown (one_block hC3 2) d os
        have D1 : ∀ d os, (grow (redrawn wq d) os).cell? ⟨wr.heap.size + 1, 1, none⟩ = some (.int .i64 s.asked) := fun d os => cell_regrown (one_block hh3 1) d os
        have D2 : ∀ d os, (grow (redrawn wq d) os).cell? ⟨w.heap.size + 1, 0, none⟩ = some (.int .i64 bi) := fun d os => cell_regrown (one_block hK3 0) d os
        have D3 : ∀ d os, (grow (redrawn wq d) os).cell? ⟨w.heap.size + 1, 1, none⟩ = some (.int .i64 bp) := fun d os => cell_regrown (one_block hK3 1) d os
        have hqw : wr.heap.size < wq.heap.size := by have := HS2.out; omega
        have hnew : ∀ w', Below wq.heap.size wq w' → RangeIs w' m (w.heap.size + 1 + 1) L (left.filter fun x => !Slot.at s.ino s.page x) ∧ Below w.heap.size w w' ∧ w.heap.size + 1 + 1 < w'.heap.size ∧ w'.heap[w.heap.size]? = some (.cells #[.int .i64 0, .int .i64 0] 177 (0, 0)) ∧ w'.heap[w.heap.size + 1]? = some (.cells #[.int .i64 bi, .int .i64 bp] 177 (0, 0)) ∧ w'.heap[wr.heap.size]? = some (.cells #[.int .i64 s.ino, .int .i64 s.page] 177 (0, 0)) := fun w' hm => ⟨hrg3.same (hm.block m (by omega)) (hm.block _ (by omega)), hB3.trans (hm.mono (by omega)), by have := hm.size; omega, (hm.block _ (by omega)).trans hR3, (hm.block _ (by omega)).trans hK3, (hm.block _ (by omega)).trans hk3⟩
        have hmapq := hrg3.slots
        have HNEW := Lib.hid hnew
        have HMAP := Lib.hid hmapq
        clear hk3 hh3 hC3 hK3 hR3 hrg3 hnew hmapq
        cases found with
        | false =>
          go_upto_region 7 with (fail)
          refine wp_region_quiet_below (by kernel_rfl) (by kernel_rfl) ?_; (repeat (go_big_quiet_step ((fail)))); refine wpQuiet_nil ?_; intro _ hw'; obtain ⟨⟨dq, osq⟩, hw''⟩ := hw'; subst hw''; have hb7 := below_regrown (wq) dq osq; generalize grow (redrawn (wq) dq) osq = w7 at hb7 ⊢
          clear D0 D1 D2 D3
          obtain ⟨g1, g2, g3, g4, g5, g6⟩ := HNEW.out _ hb7
          have k0 : w7.cell? ⟨wr.heap.size, 0, none⟩ = some (.int .i64 s.ino) := one_block g6 0
          have k1 : w7.cell? ⟨wr.heap.size, 1, none⟩ = some (.int .i64 s.page) := one_block g6 1
          have b0 : w7.cell? ⟨w.heap.size + 1, 0, none⟩ = some (.int .i64 bi) := one_block g5 0
          have b1 : w7.cell? ⟨w.heap.size + 1, 1, none⟩ = some (.int .i64 bp) := one_block g5 1
          have f0 := one_free g5 0
          have f1 := one_free g5 1
          have G1 := Lib.hid g1
          have G4 := Lib.hid g4
          have G5 := Lib.hid g5
          clear g1 g4 g5 g6
          go_wp2_with fail
          go_roundw
          case rel => exact ⟨_, true, s.ino, s.page, rfl, G1.out.same ((two_mod _ _ _ _).block m (by omega) (by omega)) ((two_mod _ _ _ _).block _ (by omega) (by omega)), best_new hSole HBE.out hmem hl (fun e => by cases e), g2.trans ((two_mod _ _ _ _).below (fun b e => by omega) (by omega)), by have := (two_mod w7 (w.heap.size + 1) (.int .i64 s.ino) (.int .i64 s.page)).size; omega, ((two_mod _ _ _ _).block _ (by omega) (by omega)).trans G4.out, two_set G5.out⟩
          case measure => rw [(G1.out.same ((two_mod _ _ _ _).block m (by omega) (by omega)) ((two_mod _ _ _ _).block _ (by omega) (by omega))).leftN, hrg.leftN]; exact hleft
        | true =>
          rcases HBE.out with ⟨h9, _⟩ | ⟨_, b, hbm, rfl, rfl, hbc, hbo⟩
          · cases h9
          have hlk : ∀ d os, (Instr.lookup 155 (.map (some m)) (.agg #[.int .i64 b.ino, .int .i64 b.page]) false).run Tryz.prog (grow (redrawn wq d) os) = .ok (.agg #[.int .i64 (b.frame : Int), .int .i64 b.asked]) (grow (redrawn wq d) os) := fun d os => (HMAP.out.same ((below_regrown wq d os).block m (by omega))).lookS hbm
          have hfl := held_asked (.int .i64 (b.frame : Int)) (.int .i64 b.asked)
          by_cases hless : s.asked < b.asked
          · have hd : decide (s.asked < b.asked) = true := decide_eq_true hless
            go_upto_region 7 with (fail)
            refine wp_region_quiet_below (by kernel_rfl) (by kernel_rfl) ?_; (repeat (go_big_quiet_step ((fail)))); refine wpQuiet_nil ?_; intro _ hw'; obtain ⟨⟨dq, osq⟩, hw''⟩ := hw'; subst hw''; have hb7 := below_regrown (wq) dq osq; generalize grow (redrawn (wq) dq) osq = w7 at hb7 ⊢
            clear D0 D1 D2 D3
            obtain ⟨g1, g2, g3, g4, g5, g6⟩ := HNEW.out _ hb7
            have k0 : w7.cell? ⟨wr.heap.size, 0, none⟩ = some (.int .i64 s.ino) := one_block g6 0
            have k1 : w7.cell? ⟨wr.heap.size, 1, none⟩ = some (.int .i64 s.page) := one_block g6 1
            have b0 : w7.cell? ⟨w.heap.size + 1, 0, none⟩ = some (.int .i64 b.ino) := one_block g5 0
            have b1 : w7.cell? ⟨w.heap.size + 1, 1, none⟩ = some (.int .i64 b.page) := one_block g5 1
            have f0 := one_free g5 0
            have f1 := one_free g5 1
            have G1 := Lib.hid g1
            have G4 := Lib.hid g4
            have G5 := Lib.hid g5
            clear g1 g4 g5 g6
            go_wp2_with fail
            go_roundw
            case rel => exact ⟨_, true, s.ino, s.page, rfl, G1.out.same ((two_mod _ _ _ _).block m (by omega) (by omega)) ((two_mod _ _ _ _).block _ (by omega) (by omega)), best_new hSole HBE.out hmem hl (fun e => ⟨b, hbm, rfl, rfl, hless⟩), g2.trans ((two_mod _ _ _ _).below (fun b e => by omega) (by omega)), by have := (two_mod w7 (w.heap.size + 1) (.int .i64 s.ino) (.int .i64 s.page)).size; omega, ((two_mod _ _ _ _).block _ (by omega) (by omega)).trans G4.out, two_set G5.out⟩
            case measure => rw [(G1.out.same ((two_mod _ _ _ _).block m (by omega) (by omega)) ((two_mod _ _ _ _).block _ (by omega) (by omega))).leftN, hrg.leftN]; exact hleft
          · have hd : decide (s.asked < b.asked) = false := decide_eq_false hless
            go_upto_region 7 with (fail)
            refine wp_region_quiet_below (by kernel_rfl) (by kernel_rfl) ?_; (repeat (go_big_quiet_step ((fail)))); refine wpQuiet_nil ?_; intro _ hw'; obtain ⟨⟨dq, osq⟩, hw''⟩ := hw'; subst hw''; have hb7 := below_regrown (wq) dq osq; generalize grow (redrawn (wq) dq) osq = w7 at hb7 ⊢
            clear D0 D1 D2 D3
            obtain ⟨g1, g2, g3, g4, g5, g6⟩ := HNEW.out _ hb7
            have G1 := Lib.hid g1
            have G4 := Lib.hid g4
            have G5 := Lib.hid g5
            clear g1 g4 g5 g6
            go_wp2_with fail
            go_roundw
            case rel => exact ⟨_, true, b.ino, b.page, rfl, G1.out, best_keep hSole hbm HBE.out hmem hless, g2, g3, G4.out, G5.out⟩
            case measure => rw [G1.out.leftN, hrg.leftN]; exact hleft
      · have hl' : (((countB p (s.frame : Int) : Nat) : Int) != 1) = true := by rw [bne_iff_ne]; omega
        have HK3 := Lib.hid hK3
        have HR3 := Lib.hid hR3
        have HRG3 := Lib.hid hrg3
        clear hk3 hh3 hC3 hK3 hR3 hrg3
        go_wp2_with fail
        go_roundw
        case rel => exact ⟨_, found, bi, bp, rfl, HRG3.out, best_skip hSole HBE.out hmem hl, hB3, hltq, HR3.out, HK3.out⟩
        case measure => rw [HRG3.out.leftN, hrg.leftN]; exact hleft

end Go.Proofs.YtkkmcnngpahfaaaGreatDoor

namespace Go.Proofs.YtkkmcnngpahfaaaGreatDoor
open Go.RowKit Go.Maps Go.WideMaps Go.Sort
open Go.ChangeMaps (setBlock)
set_option linter.unusedSimpArgs false
set_option linter.unusedVariables false

/-- A cache in memory: its pool (in S), its slots. -/
structure CacheAt (w : World) (S : Nat → Prop) (c a fs m : Nat) (clock : Int) (p : Pool) (L : List Slot) : Prop where
  pool : PoolAt w S a p
  self : CacheSelf w c a fs m clock
  slots : SlotsAt w m L
  noC : ¬ S c
  noM : ¬ S m
theorem CacheAt.lts {w : World} {S : Nat → Prop} {c a fs m : Nat} {clock : Int} {p : Pool} {L : List Slot} (h : CacheAt w S c a fs m clock p L) : c < w.heap.size ∧ m < w.heap.size ∧ c ≠ m ∧ m ≠ 0 := by
  have h1 : c < w.heap.size := (Array.getElem?_eq_some_iff.1 h.self).1
  refine ⟨h1, h.slots.lt, fun e => ?_, fun e => ?_⟩
  · obtain ⟨es, clk, h2⟩ := h.slots
    have h3 := h2.block
    have h4 := h.self
    unfold CacheSelf at h4
    rw [← e, h4] at h3
    cases h3
  · obtain ⟨es, clk, h2⟩ := h.slots
    have h3 := h2.block
    have h4 := h.pool.tab 0 (by decide)
    unfold World.cell? at h4
    rw [e] at h3
    simp [h3] at h4
theorem CacheAt.mod {w w' : World} {S T : Nat → Prop} {c a fs m : Nat} {clock : Int} {p : Pool} {L : List Slot} (h : CacheAt w S c a fs m clock p L) (hm : Mod T w w') (hS : ∀ b, S b → ¬ T b) (h0 : ¬ T 0) (hc : ¬ T c) (hmm : ¬ T m) : CacheAt w' S c a fs m clock p L :=
  ⟨h.pool.mod hm hS h0, (hm.block c h.lts.1 hc).trans h.self, h.slots.same (hm.block m h.lts.2.1 hmm), h.noC, h.noM⟩
theorem CacheAt.below {w w' : World} {S : Nat → Prop} {c a fs m : Nat} {clock : Int} {p : Pool} {L : List Slot} (h : CacheAt w S c a fs m clock p L) (hb : Below w.heap.size w w') : CacheAt w' S c a fs m clock p L :=
  ⟨h.pool.below hb, (hb.block c h.lts.1).trans h.self, h.slots.same (hb.block m h.lts.2.1), h.noC, h.noM⟩
/-- The pool alone is turned. -/
theorem CacheAt.turn {w w' : World} {S S' : Nat → Prop} {c a fs m : Nat} {clock : Int} {p p' : Pool} {L : List Slot} (h : CacheAt w S c a fs m clock p L) (hm : Mod S w w') (hp : PoolAt w' S' a p') (ho : Out S S' w) : CacheAt w' S' c a fs m clock p' L :=
  ⟨hp, (hm.block c h.lts.1 h.noC).trans h.self, h.slots.same (hm.block m h.lts.2.1 h.noM), fun e => by
    rcases ho c e with h1 | h1
    · exact h.noC h1
    · have := h.lts.1; omega, fun e => by
    rcases ho m e with h1 | h1
    · exact h.noM h1
    · have := h.lts.2.1; omega⟩
/-- The pool's blocks, and the slots'. -/
def Both (S : Nat → Prop) (m : Nat) : Nat → Prop := fun b => S b ∨ b = m

/-- What Take comes to. -/
inductive TakeRes (p : Pool) (L : List Slot) : Int → Nat → Pool → List Slot → Prop
  | free (f : Nat) : p.lowest = some f → TakeRes p L 0 f (p.takeAt f) L
  | loose (s : Slot) : p.lowest = none → s ∈ L → s.frame < p.n → p.cnt s.frame = 1 → (∀ t ∈ L, countB p t.frame = 1 → s.asked ≤ t.asked) → TakeRes p L 0 s.frame ((p.down s.frame).takeAt s.frame) (L.filter fun x => !Slot.at s.ino s.page x)
  | none : p.lowest = none → (∀ t ∈ L, countB p t.frame ≠ 1) → TakeRes p L 4 0 p L
def CTakePost (w : World) (S : Nat → Prop) (c a fs m : Nat) (clock : Int) (p : Pool) (L : List Slot) (e : Ending) (w' : World) : Prop :=
  ∃ r f p' L' S', e = .returned (.tuple #[.int .i64 (f : Nat), .int .i64 r]) ∧ CacheAt w' S' c a fs m clock p' L' ∧ Mod (Both S m) w w' ∧ Out S S' w ∧ TakeRes p L r f p' L'

theorem countB_one {p : Pool} {g : Nat} (h : countB p (g : Int) = 1) : g < p.n ∧ p.cnt g = 1 := by
  unfold countB at h
  by_cases h1 : takenB p (g : Int) = true
  · rw [if_pos h1, Int.toNat_natCast] at h
    rw [takenB_nat] at h1
    exact ⟨(of_decide_eq_true h1).1, h⟩
  · rw [if_neg h1] at h
    cases h
theorem lowest_down {p : Pool} {g : Nat} (h : p.lowest = none) (hg : g < p.n) (h1 : p.cnt g = 1) : (p.down g).lowest = some g := by
  have hn := lowest_none h
  refine lowest_is hg ?_ fun x hx => ?_
  · simp only [Pool.down, upd_same]; omega
  · simp only [Pool.down, upd_ne _ _ (show x ≠ g by omega)]
    exact hn x (by omega)

theorem wpList_delete_slots {ops : Array Oper} {rest : List Oper} {o : Oper} {A : Act} {w : World} {Q : Exit → Act → World → Prop} (hg : o.guard = none) (x y : Operand) (hop : o.op = Op.call { callee := Callee.builtin Builtin.delete, args := #[x, y], argTypes := #[155, 177] })
    (m : Nat) (L : List Slot) (s : Slot) (hx : A.eval x = .map (some m)) (hy : A.eval y = .agg #[.int .i64 s.ino, .int .i64 s.page]) (h : SlotsAt w m L) (hs : s ∈ L)
    (hK : ∀ w', SlotsAt w' m (L.filter fun x => !Slot.at s.ino s.page x) → Mod (fun j => j = m) w w' → w'.heap.size = w.heap.size → wpList Tryz.prog ops Q rest (A.put o.dst (.tuple #[])) w') :
    wpList Tryz.prog ops Q (o :: rest) A w := by
  refine wpList_plain hg fun K' hK' => ?_
  obtain ⟨es, clk, h1⟩ := h
  obtain ⟨es', hrun, h2⟩ := h1.drop hs o.type
  have hrun' : (Builtin.delete_ #[155, 177] o.type #[.map (some m), .agg #[.int .i64 s.ino, .int .i64 s.page]]).run Tryz.prog w = .ok (.tuple #[]) (setBlock w m (.map es' clk)) := hrun
  unfold Oper.wp
  simp [execOp, hop, resolve, invoke, builtin, hx, hy, hrun', Result.andThen]
  exact hK' _ _ (hK _ ⟨es', clk, h2⟩ setBlock_mod setBlock_size)

set_option maxRecDepth 100000 in
set_option maxHeartbeats 4000000 in
theorem ctake_any (c a fs m : Nat) (clock : Int) (w : World) (S : Nat → Prop) (p : Pool) (L : List Slot) (h : CacheAt w S c a fs m clock p L) :
    Calls Tryz.prog 34 #[.pointer (some ⟨c, 0, none⟩)] w (CTakePost w S c a fs m clock p L) := by
  obtain ⟨hcw, hmw, hcm, hm0⟩ := h.lts
  have c0 : w.cell? ⟨c, 0, none⟩ = some (.pointer (some ⟨a, 0, none⟩)) := one_block h.self 0
  have H := Lib.hid h
  clear h
  cases hl : p.lowest with
  | some g =>
    have HL := Lib.hid hl
    clear hl
    go_enter Tryz.func34, Tryz.ntmps34
    go_wp2_with fail
    refine (take_some a g w S p H.out.pool HL.out).mono ?_
    rintro e w1 ⟨rfl, S', hP1, hm1, ho1⟩
    go_wp2_with fail
    go_ret2
    exact ⟨0, g, _, L, S', rfl, H.out.turn hm1 hP1 ho1, hm1.sub fun b hb => .inl hb, ho1, .free g HL.out⟩
  | none =>
    have HL := Lib.hid hl
    clear hl
    go_enter Tryz.func34, Tryz.ntmps34
    go_wp2_with fail
    refine (take_none a w S p H.out.pool HL.out).mono ?_
    rintro e w1 ⟨rfl, rfl⟩
    go_wp2_with fail
    refine (oldest_any c a fs m clock w S p L H.out.pool H.out.self H.out.slots).mono ?_
    rintro e w2 ⟨found, bi, bp, rfl, hbest, hb2⟩
    cases found with
    | false =>
      have HB := Lib.hid hbest
      clear hbest
      go_wp2_with fail
      go_ret2
      rcases HB.out with ⟨_, h2⟩ | ⟨h1, _⟩
      · exact ⟨4, 0, p, L, S, rfl, H.out.below (hb2.alloc hb2.size _), Mod.of (hb2.alloc hb2.size _), Out.refl _ _, .none HL.out fun t ht => h2 t ht (by simp)⟩
      · cases h1
    | true =>
      rcases hbest with ⟨h9, _⟩ | ⟨_, s, hs, rfl, rfl, hc1, hmin⟩
      · cases h9
      go_upto_region 9 with (fail)
      obtain ⟨hsn, hs1⟩ := countB_one hc1
      have hmin' : ∀ t ∈ L, countB p t.frame = 1 → s.asked ≤ t.asked := fun t ht h2 => hmin t ht (by simp) h2
      obtain ⟨w3, hw3⟩ : ∃ w3, w3 = w2.alloc (.cells #[.int .i64 s.ino, .int .i64 s.page] 177) := ⟨_, rfl⟩
      rw [← hw3]
      have hB3 : Below w.heap.size w w3 := by rw [hw3]; exact hb2.alloc hb2.size _
      have hk3 : w3.heap[w2.heap.size]? = some (.cells #[.int .i64 s.ino, .int .i64 s.page] 177 (0, 0)) := by rw [hw3]; exact heap_alloc_new _ _
      have hs3 : w2.heap.size < w3.heap.size := by rw [hw3]; simp
      have hz2 := hb2.size
      have hC3 := H.out.below hB3
      have d0 : w3.cell? ⟨c, 0, none⟩ = some (.pointer (some ⟨a, 0, none⟩)) := one_block hC3.self 0
      have d1 : w3.cell? ⟨c, 2, none⟩ = some (.map (some m)) := one_block hC3.self 2
      have d2 : w3.cell? ⟨w2.heap.size, 0, none⟩ = some (.int .i64 s.ino) := one_block hk3 0
      have d3 : w3.cell? ⟨w2.heap.size, 1, none⟩ = some (.int .i64 s.page) := one_block hk3 1
      have hlk := (hC3.slots.same (w' := w3.drew) rfl).lookS hs
      have hfl := held_frame (.int .i64 (s.frame : Int)) (.int .i64 s.asked)
      have hkS : ¬ S w2.heap.size := fun e => by have := H.out.pool.low _ e; omega
      have HC3 := Lib.hid hC3
      have HK3 := Lib.hid hk3
      have HMIN := Lib.hid hmin'
      have HS := Lib.hid hs
      clear hw3 hC3 hk3 hmin hmin' c0 hs
      go_still_tail 11, (by kernel_rfl)
      go_wp2_with fail
      refine (down_yes a s.frame _ S p (HC3.out.pool.drew) hsn (by omega)).mono ?_
      rintro e w4 ⟨rfl, hP4, hm4'⟩
      have hm4 := hm4'.undrew
      have hz4 := hm4.size
      have hC4 := HC3.out.turn hm4 hP4 (Out.refl _ _)
      have hk4 := (hm4.block _ hs3 hkS).trans HK3.out
      clear d0 d1 d2 d3 hlk hfl hm4'
      have d1 : w4.cell? ⟨c, 2, none⟩ = some (.map (some m)) := one_block hC4.self 2
      have d2 : w4.cell? ⟨w2.heap.size, 0, none⟩ = some (.int .i64 s.ino) := one_block hk4 0
      have d3 : w4.cell? ⟨w2.heap.size, 1, none⟩ = some (.int .i64 s.page) := one_block hk4 1
      have hsl4 := hC4.slots.same (w' := w4.drew) rfl
      have HC4 := Lib.hid hC4
      clear hC4 hk4
      go_upto_region 10 with (fail)
      go_still_tail 5, (by kernel_rfl)
      go_upto_region 11 with ((first
        | (refine wpList_delete_slots rfl _ _ rfl m L s rfl rfl hsl4 HS.out ?_; intro w5 hsl5 hm5' hs5; go_frame)
        | fail))
      have hm5 := hm5'.undrew
      have hP5 := HC4.out.pool.mod hm5 (fun b hb e => H.out.noM (e ▸ hb)) (fun e => hm0 e.symm)
      have hC5 : CacheAt w5 S c a fs m clock (p.down s.frame) (L.filter fun x => !Slot.at s.ino s.page x) := ⟨hP5, (hm5.block c HC4.out.lts.1 hcm).trans HC4.out.self, hsl5, H.out.noC, H.out.noM⟩
      have c0 : w5.cell? ⟨c, 0, none⟩ = some (.pointer (some ⟨a, 0, none⟩)) := one_block hC5.self 0
      have HC5 := Lib.hid hC5
      clear hC5 hP5 hsl5 hsl4 d1 d2 d3
      go_wp2_with fail
      refine (take_some a s.frame w5 S _ HC5.out.pool (lowest_down HL.out hsn hs1)).mono ?_
      rintro e w6 ⟨rfl, S', hP6, hm6, ho6⟩
      go_wp2_with fail
      go_ret2
      have hmall : Mod (Both S m) w w5 := (Mod.of hB3).trans (Out.refl _ _) ((hm4.sub fun b hb => .inl hb).trans (Out.refl _ _) (hm5.sub fun b hb => .inr hb))
      exact ⟨0, s.frame, _, _, S', rfl, HC5.out.turn hm6 hP6 ho6, hmall.trans (Out.refl _ _) (hm6.sub fun b hb => .inl hb), fun b hb => (ho6 b hb).imp id fun e => Nat.le_trans hmall.size e, .loose s HL.out HS.out hsn hs1 HMIN.out⟩

end Go.Proofs.YtkkmcnngpahfaaaGreatDoor

namespace Go.Proofs.YtkkmcnngpahfaaaGreatDoor
set_option linter.unusedSimpArgs false
set_option linter.unusedVariables false

def slotN (L : List Slot) (f : Nat) : Nat := L.countP fun s => s.frame == f
theorem slotN_drop {L : List Slot} (h : Sole L) {s : Slot} (hs : s ∈ L) (f : Nat) : slotN (L.filter fun x => !Slot.at s.ino s.page x) f + (if s.frame = f then 1 else 0) = slotN L f := by
  unfold slotN
  induction L with
  | nil => cases hs
  | cons x l ih =>
    have hp := List.pairwise_cons.1 h
    rcases List.mem_cons.1 hs with rfl | h1
    · rw [List.filter_cons_of_neg (by simp [Slot.at]), List.countP_cons]
      have e : (l.filter fun x => !Slot.at s.ino s.page x) = l := List.filter_eq_self.2 fun y hy => by
        cases hc : Slot.at s.ino s.page y with
        | false => rfl
        | true =>
          obtain ⟨a1, a2⟩ := Slot.at_iff.1 hc
          exact absurd ⟨a1.symm, a2.symm⟩ (hp.1 y hy)
      rw [e]
      simp
    · have hx : (!Slot.at s.ino s.page x) = true := by
        cases hc : Slot.at s.ino s.page x with
        | false => rfl
        | true =>
          obtain ⟨a1, a2⟩ := Slot.at_iff.1 hc
          exact absurd ⟨a1, a2⟩ (hp.1 s h1)
      rw [List.filter_cons_of_pos (p := fun x => !Slot.at s.ino s.page x) hx, List.countP_cons, List.countP_cons, ← ih hp.2 h1]
      omega
theorem slotN_pos {L : List Slot} {s : Slot} (hs : s ∈ L) : 0 < slotN L s.frame := List.countP_pos_iff.2 ⟨s, hs, by simp⟩
theorem Sole.drop {L : List Slot} (h : Sole L) (q : Slot → Bool) : Sole (L.filter q) := List.Pairwise.sublist List.filter_sublist h

/-- What is counted beside the table: slots, and who holds. -/
def held (L : List Slot) (hold : Nat → Nat) : Nat → Nat := fun x => slotN L x + hold x

theorem Tab.Good.ctake {p p' : Pool} {T : Tab} {L L' : List Slot} {hold : Nat → Nat} {pg lv f : Nat} (h : T.Good p (held L hold) pg lv) (hS : Sole L) (ht : TakeRes p L 0 f p' L') :
    T.Good p' (held L' (upd hold f 1)) pg lv ∧ f < p.n ∧ p'.n = p.n ∧ hold f = 0 ∧ ¬ isNode T f ∧ (p'.dat f = fun _ => 0) ∧ (∀ x, x ≠ f → p'.dat x = p.dat x) ∧ Sole L' ∧ p'.cnt f = 1 ∧ (∀ x, x ≠ f → p'.cnt x = p.cnt x) := by
  cases ht with
  | free _ hl =>
    obtain ⟨h1, h2, h3⟩ := lowest_some hl
    obtain ⟨a1, a2, a3⟩ := h.fresh h1 h2
    have a4 : slotN L f = 0 ∧ hold f = 0 := by unfold held at a3; omega
    have hg := h.take h1 h2
    have e : upd (held L hold) f 1 = held L (upd hold f 1) := by
      funext x
      unfold held
      by_cases e : x = f
      · subst e
        rw [upd_same, upd_same, a4.1]
      · rw [upd_ne _ _ e, upd_ne _ _ e]
    rw [e] at hg
    exact ⟨hg, h1, rfl, a4.2, a1, upd_same _ _ _, fun x hx => upd_ne _ _ hx, hS, upd_same _ _ _, fun x hx => upd_ne _ _ hx⟩
  | loose s hl hs hsn h1 hmin =>
    have hc := h.cnt s.frame hsn
    have hp := slotN_pos hs
    have hd := slotN_drop hS hs
    have a1 : slotN L s.frame = 1 ∧ hold s.frame = 0 ∧ nodeCnt T s.frame = 0 ∧ leafCnt T s.frame = 0 := by unfold held at hc; omega
    have hn : ¬ isNode T s.frame := fun e => by
      have := nodeCnt_yes e
      omega
    have hg := (h.down (f := s.frame) (by unfold held; omega)).take (f := s.frame) hsn (by simp only [Pool.down, upd_same]; omega)
    have e : upd (upd (held L hold) s.frame (held L hold s.frame - 1)) s.frame 1 = held (L.filter fun x => !Slot.at s.ino s.page x) (upd hold s.frame 1) := by
      funext x
      have h2 := hd x
      unfold held
      by_cases e : x = s.frame
      · subst e
        rw [if_pos rfl] at h2
        rw [upd_same, upd_same]
        omega
      · rw [if_neg (fun e1 => e e1.symm)] at h2
        rw [upd_ne _ _ e, upd_ne _ _ e, upd_ne _ _ e]
        omega
    rw [e] at hg
    refine ⟨hg, hsn, rfl, a1.2.1, hn, upd_same _ _ _, fun x hx => upd_ne _ _ hx, hS.drop _, upd_same _ _ _, fun x hx => ?_⟩
    show upd (upd p.cnt s.frame _) s.frame 1 x = p.cnt x
    rw [upd_ne _ _ hx, upd_ne _ _ hx]
theorem held_upd (L : List Slot) (hold : Nat → Nat) (f d : Nat) : upd (held L hold) f (held L hold f + d) = held L (upd hold f (hold f + d)) := by
  funext x
  unfold held
  by_cases e : x = f
  · subst e
    rw [upd_same, upd_same]
    omega
  · rw [upd_ne _ _ e, upd_ne _ _ e]
theorem held_less (L : List Slot) (hold : Nat → Nat) (f : Nat) (h : 0 < hold f) : upd (held L hold) f (held L hold f - 1) = held L (upd hold f (hold f - 1)) := by
  funext x
  unfold held
  by_cases e : x = f
  · subst e
    rw [upd_same, upd_same]
    omega
  · rw [upd_ne _ _ e, upd_ne _ _ e]

end Go.Proofs.YtkkmcnngpahfaaaGreatDoor

namespace Go.Proofs.YtkkmcnngpahfaaaGreatDoor
set_option linter.unusedSimpArgs false
set_option linter.unusedVariables false

/-- One more for each frame of a list. -/
def plus (hold : Nat → Nat) (fs : List Nat) : Nat → Nat := fun x => hold x + if x ∈ fs then 1 else 0
theorem plus_nil (hold : Nat → Nat) : plus hold [] = hold := by
  funext x
  unfold plus
  simp
theorem plus_snoc {hold : Nat → Nat} {fs : List Nat} {f : Nat} (h0 : plus hold fs f = 0) : upd (plus hold fs) f 1 = plus hold (fs ++ [f]) := by
  funext x
  unfold plus at h0 ⊢
  by_cases e : x = f
  · subst e
    rw [upd_same]
    have : hold x = 0 := by omega
    simp [this]
  · rw [upd_ne _ _ e]
    simp [e]
theorem plus_cons {hold : Nat → Nat} {fs : List Nat} {f : Nat} (hn : f ∉ fs) (h0 : hold f = 0) : upd (plus hold (f :: fs)) f (plus hold (f :: fs) f - 1) = plus hold fs := by
  funext x
  unfold plus
  by_cases e : x = f
  · subst e
    rw [upd_same]
    simp [hn, h0]
  · rw [upd_ne _ _ e]
    simp [e]

theorem Sole.nodup {L : List Slot} (h : Sole L) : L.Nodup := List.Pairwise.imp (fun h e => h (by subst e; exact ⟨rfl, rfl⟩)) h
/-- A slot that alone counts its frame. -/
def Loose (T : Tab) (L : List Slot) (hold : Nat → Nat) (s : Slot) : Prop := slotN L s.frame = 1 ∧ leafCnt T s.frame = 0 ∧ ¬ isNode T s.frame ∧ hold s.frame = 0
theorem slotN_two {L : List Slot} (h : Sole L) {s t : Slot} (hs : s ∈ L) (ht : t ∈ L) (hne : t ≠ s) (hf : t.frame = s.frame) : 2 ≤ slotN L s.frame := by
  have h1 := slotN_drop h hs s.frame
  rw [if_pos rfl] at h1
  have h2 : t ∈ L.filter fun x => !Slot.at s.ino s.page x := by
    rw [List.mem_filter]
    refine ⟨ht, ?_⟩
    rw [Bool.not_eq_true', Bool.eq_false_iff]
    intro e
    have e2 := Slot.at_iff.1 e
    exact hne (h.eq ht hs e2)
  have h3 := slotN_pos h2
  rw [hf] at h3
  omega
theorem slotN_sub {L L1 : List Slot} (h : L.Sublist L1) (hn : L1.Nodup) {f : Nat} (hf : ∀ t ∈ L1, t ∉ L → t.frame ≠ f) : slotN L1 f = slotN L f := by
  induction h with
  | slnil => rfl
  | cons a h ih =>
    have hn1 := List.nodup_cons.1 hn
    have ha := hf a (List.mem_cons_self ..) fun e => hn1.1 (h.subset e)
    have := ih hn1.2 fun t ht => hf t (List.mem_cons_of_mem _ ht)
    rw [← this]
    unfold slotN
    rw [List.countP_cons_of_neg (by simpa using ha)]
  | cons_cons a h ih =>
    have hn1 := List.nodup_cons.1 hn
    have := ih hn1.2 fun t ht hnt => hf t (List.mem_cons_of_mem _ ht) fun e => by
      rcases List.mem_cons.1 e with e | e
      · exact hn1.1 (e ▸ ht)
      · exact hnt e
    unfold slotN at *
    rw [List.countP_cons, List.countP_cons, this]

/-- Frames have been taken. -/
structure Took (T : Tab) (n r0 : Nat) (d0 : Nat → Nat → Nat) (L1 : List Slot) (hold : Nat → Nat) (pg : Nat) (fs : List Nat) (p : Pool) (L : List Slot) : Prop where
  good : T.Good p (held L (plus hold fs)) pg 4
  nodup : fs.Nodup
  each : ∀ f ∈ fs, f < p.n ∧ ¬ isNode T f ∧ (p.dat f = fun _ => 0) ∧ hold f = 0 ∧ p.cnt f = 1
  n : p.n = n
  sole : Sole L
  sub : L.Sublist L1
  room : r0 ≤ p.left + fs.length
  sole1 : Sole L1
  drop : ∀ s ∈ L1, s ∉ L → Loose T L1 hold s
  dat : ∀ x, 0 < hold x + leafCnt T x + slotN L x → p.dat x = d0 x
  each2 : ∀ f ∈ fs, leafCnt T f = 0 ∧ slotN L f = 0
theorem Took.nil {T : Tab} {p : Pool} {L : List Slot} {hold : Nat → Nat} {pg0 : Nat} (h : T.Good p (held L hold) pg0 4) (hS : Sole L) (pg : Nat) : Took T p.n p.left p.dat L hold pg [] p L :=
  ⟨by rw [plus_nil]; exact h.any pg 4, List.nodup_nil, (fun f hf => absurd hf (by simp)), rfl, hS, List.Sublist.refl _, by simp, hS, (fun s h1 h2 => absurd h1 h2), fun _ _ => rfl, fun f hf => absurd hf (by simp)⟩
theorem TakeRes.sub {p p' : Pool} {L L' : List Slot} {r : Int} {f : Nat} (h : TakeRes p L r f p' L') : L'.Sublist L := by
  cases h
  · exact List.Sublist.refl _
  · exact List.filter_sublist
  · exact List.Sublist.refl _
theorem TakeRes.full {p p' : Pool} {L L' : List Slot} {f : Nat} (h : TakeRes p L 4 f p' L') : p.left = 0 := by
  cases h with
  | none h1 => exact freeTo_zero.2 (lowest_none h1)
theorem TakeRes.left {p p' : Pool} {L L' : List Slot} {f : Nat} (h : TakeRes p L 0 f p' L') : p.left ≤ p'.left + 1 := by
  cases h with
  | free f h1 =>
    obtain ⟨h2, h3, _⟩ := lowest_some h1
    have := freeTo_upd (c := p.cnt) (n := p.n) (f := f) (x := 1) h2
    rw [if_pos h3] at this
    show freeTo p.cnt p.n ≤ freeTo (upd p.cnt f 1) p.n + 1
    omega
  | loose s h1 =>
    have : p.left = 0 := freeTo_zero.2 (lowest_none h1)
    omega
theorem left_up {p : Pool} {f : Nat} (h : 1 ≤ p.cnt f) : (p.up f).left = p.left := by
  refine freeTo_congr fun i _ => ?_
  show upd p.cnt f (p.cnt f + 1) i = 0 ↔ _
  by_cases e : i = f
  · subst e; rw [upd_same]; omega
  · rw [upd_ne _ _ e]
theorem Took.step {T : Tab} {n r0 : Nat} {d0 : Nat → Nat → Nat} {L1 : List Slot} {hold : Nat → Nat} {pg : Nat} {fs : List Nat} {p p' : Pool} {L L' : List Slot} {f : Nat} (h : Took T n r0 d0 L1 hold pg fs p L) (ht : TakeRes p L 0 f p' L') : Took T n r0 d0 L1 hold pg (fs ++ [f]) p' L' := by
  have hroom : r0 ≤ p'.left + (fs ++ [f]).length := by have h1 := h.room; have h2 := ht.left; rw [List.length_append]; show r0 ≤ p'.left + (fs.length + 1); omega
  obtain ⟨a1, a2, a3, a4, a5, a6, a7, a8, a9, a10⟩ := h.good.ctake h.sole ht
  have hnot : f ∉ fs := fun e => by
    unfold plus at a4
    rw [if_pos e] at a4
    omega
  have h0 : hold f = 0 := by
    unfold plus at a4
    omega
  have hdr : ∀ s ∈ L1, s ∉ L' → Loose T L1 hold s := fun s hs1 hs2 => by
    by_cases hs3 : s ∈ L
    · have hlo : p.cnt s.frame = 1 ∧ s.frame < p.n := by
        cases ht with
        | free => exact absurd hs3 hs2
        | loose s0 hl hs0 hsn h1 hmin =>
          have : s = s0 := by
            apply Classical.byContradiction
            intro hne
            refine hs2 (List.mem_filter.2 ⟨hs3, ?_⟩)
            rw [Bool.not_eq_true', Bool.eq_false_iff]
            intro e
            exact hne (h.sole.eq hs3 hs0 (Slot.at_iff.1 e))
          subst this
          exact ⟨h1, hsn⟩
      have hc := h.good.cnt s.frame hlo.2
      have hp := slotN_pos hs3
      have b1 : slotN L s.frame = 1 ∧ plus hold fs s.frame = 0 ∧ nodeCnt T s.frame = 0 ∧ leafCnt T s.frame = 0 := by unfold held at hc; omega
      have b2 : slotN L1 s.frame = slotN L s.frame := slotN_sub h.sub h.sole1.nodup fun t ht1 ht2 e => by
        have h5 := (h.drop t ht1 ht2).1
        have h6 := slotN_two h.sole1 hs1 ht1 (fun e2 => ht2 (e2 ▸ hs3)) e
        rw [e] at h5
        omega
      exact ⟨by omega, b1.2.2.2, fun e => by have := nodeCnt_yes e; omega, by have := b1.2.1; unfold plus at this; omega⟩
    · exact h.drop s hs1 hs3
  have hlf : leafCnt T f = 0 ∧ slotN L' f = 0 := by
    have h5 := a1.cnt f (by rw [a3]; exact a2)
    have h6 := nodeCnt_no a5
    unfold held at h5
    rw [upd_same] at h5
    omega
  have hle : ∀ x, slotN L' x ≤ slotN L x := fun x => List.Sublist.countP_le ht.sub
  have hdat : ∀ x, 0 < hold x + leafCnt T x + slotN L' x → p'.dat x = d0 x := fun x hx => by
    have hne : x ≠ f := fun e => by subst e; omega
    rw [a7 x hne]
    exact h.dat x (by have := hle x; omega)
  refine ⟨by rw [← plus_snoc a4]; exact a1, ?_, fun x hx => ?_, a3.trans h.n, a8, ht.sub.trans h.sub, hroom, h.sole1, hdr, hdat, fun x hx => ?_⟩
  rotate_right
  · rcases List.mem_append.1 hx with h1 | h1
    · exact ⟨(h.each2 x h1).1, by have h8 := (h.each2 x h1).2; have := hle x; omega⟩
    · simp only [List.mem_singleton] at h1
      subst h1
      exact hlf
  · rw [List.nodup_append]
    exact ⟨h.nodup, by simp, fun x hx y hy => by simp only [List.mem_singleton] at hy; subst hy; exact fun e => hnot (e ▸ hx)⟩
  · rcases List.mem_append.1 hx with h1 | h1
    · obtain ⟨b1, b2, b3, b4, b5⟩ := h.each x h1
      have hne : x ≠ f := fun e => hnot (e ▸ h1)
      exact ⟨by rw [a3]; exact b1, b2, by rw [a7 x hne]; exact b3, b4, by rw [a10 x hne]; exact b5⟩
    · simp only [List.mem_singleton] at h1
      subst h1
      exact ⟨by rw [a3]; exact a2, a5, a6, h0, a9⟩

/-- Some of them are to be given up still. -/
structure Undo (T : Tab) (n : Nat) (d0 : Nat → Nat → Nat) (L : List Slot) (hold : Nat → Nat) (pg : Nat) (fs : List Nat) (p : Pool) : Prop where
  good : T.Good p (held L (plus hold fs)) pg 4
  nodup : fs.Nodup
  each : ∀ f ∈ fs, f < p.n ∧ hold f = 0
  n : p.n = n
  dat : ∀ x, 0 < hold x + leafCnt T x + slotN L x → p.dat x = d0 x
theorem Took.undo {T : Tab} {n r0 : Nat} {d0 : Nat → Nat → Nat} {L1 : List Slot} {hold : Nat → Nat} {pg : Nat} {fs : List Nat} {p : Pool} {L : List Slot} (h : Took T n r0 d0 L1 hold pg fs p L) : Undo T n d0 L hold pg fs p :=
  ⟨h.good, h.nodup, fun f hf => ⟨(h.each f hf).1, (h.each f hf).2.2.2.1⟩, h.n, h.dat⟩
/-- None could be taken: each frame is named by a table, held, or waits. -/
theorem Took.full {T : Tab} {n r0 f0 : Nat} {d0 : Nat → Nat → Nat} {L1 : List Slot} {hold : Nat → Nat} {pg : Nat} {fs : List Nat} {p p' : Pool} {L L' : List Slot} (h : Took T n r0 d0 L1 hold pg fs p L) (ht : TakeRes p L 4 f0 p' L') {f : Nat} (hf : f < n) (hs : slotN L1 f ≤ 1) : 0 < leafCnt T f + nodeCnt T f + hold f ∨ f ∈ fs := by
  have hle : slotN L f ≤ slotN L1 f := List.Sublist.countP_le h.sub
  have hc := h.good.cnt f (by rw [h.n]; exact hf)
  have hp : plus hold fs f = hold f + (if f ∈ fs then 1 else 0) := rfl
  cases ht with
  | none h1 h2 =>
    have h3 := lowest_none h1 f (by rw [h.n]; exact hf)
    by_cases hm : f ∈ fs
    · exact .inr hm
    · left
      rw [if_neg hm] at hp
      unfold held at hc
      by_cases h0 : slotN L f = 0
      · omega
      · obtain ⟨t, ht1, ht2⟩ := List.countP_pos_iff.1 (show 0 < slotN L f by omega)
        have ht3 : t.frame = f := by simpa using ht2
        have h4 := h2 t ht1
        rw [ht3, countB_nat (by rw [h.n]; exact hf)] at h4
        omega
theorem Undo.live {T : Tab} {n : Nat} {d0 : Nat → Nat → Nat} {L : List Slot} {hold : Nat → Nat} {pg f : Nat} {fs : List Nat} {p : Pool} (h : Undo T n d0 L hold pg (f :: fs) p) : f < p.n ∧ 1 ≤ p.cnt f := by
  have h1 := (h.each f (List.mem_cons_self ..)).1
  have h2 := h.good.cnt f h1
  unfold held plus at h2
  rw [if_pos (List.mem_cons_self ..)] at h2
  exact ⟨h1, by omega⟩
theorem Undo.step {T : Tab} {n : Nat} {d0 : Nat → Nat → Nat} {L : List Slot} {hold : Nat → Nat} {pg f : Nat} {fs : List Nat} {p : Pool} (h : Undo T n d0 L hold pg (f :: fs) p) : Undo T n d0 L hold pg fs (p.down f) := by
  have hp := List.nodup_cons.1 h.nodup
  have h0 := (h.each f (List.mem_cons_self ..)).2
  have h1 : 0 < plus hold (f :: fs) f := by unfold plus; rw [if_pos (List.mem_cons_self ..)]; omega
  have hg := h.good.down (f := f) (by unfold held; omega)
  rw [held_less _ _ _ h1, plus_cons hp.1 h0] at hg
  exact ⟨hg, hp.2, fun x hx => h.each x (List.mem_cons_of_mem _ hx), h.n, h.dat⟩

end Go.Proofs.YtkkmcnngpahfaaaGreatDoor

namespace Go.Proofs.YtkkmcnngpahfaaaGreatDoor
set_option linter.unusedSimpArgs false
set_option linter.unusedVariables false

/-- k nodes of a page's way were there below the root's level; j more have been linked; the frames fs wait. -/
structure Linked (T : Tab) (n r0 : Nat) (d0 : Nat → Nat → Nat) (L : List Slot) (hold : Nat → Nat) (pg d : Nat) (g : Nat) (fs : List Nat) (p : Pool) (T' : Tab) : Prop where
  good : T'.Good p (held L (plus hold fs)) pg (4 - d)
  deep : d + fs.length = 3
  node : T'.nd (4 - d) (part pg (4 - d)) = some g
  below : d = 3 ∨ T'.nd (3 - d) (part pg (3 - d)) = none
  nodup : fs.Nodup
  each : ∀ f ∈ fs, f < p.n ∧ ¬ isNode T' f ∧ (p.dat f = fun _ => 0) ∧ hold f = 0
  lf : T'.lf = T.lf
  mono : ∀ lv q f, T.nd lv q = some f → T'.nd lv q = some f
  only : ∀ f, isNode T' f → isNode T f ∨ hold f = 0
  n : p.n = n
  dat : ∀ x, ¬ isNode T x → 0 < hold x + leafCnt T x + slotN L x → p.dat x = d0 x
  each2 : ∀ f ∈ fs, leafCnt T f = 0 ∧ slotN L f = 0 ∧ p.cnt f = 1
  only2 : ∀ f, isNode T' f → isNode T f ∨ (hold f = 0 ∧ leafCnt T f = 0 ∧ slotN L f = 0 ∧ p.cnt f = 1)
  room : r0 ≤ p.left + 3

theorem Linked.start {T : Tab} {n r0 : Nat} {d0 : Nat → Nat → Nat} {L1 : List Slot} {hold : Nat → Nat} {pg d g : Nat} {fs : List Nat} {p : Pool} {L : List Slot} (h : Took T n r0 d0 L1 hold pg fs p L) (hd : d + fs.length = 3) (hg : T.nd (4 - d) (part pg (4 - d)) = some g) (hb : d = 3 ∨ T.nd (3 - d) (part pg (3 - d)) = none) :
    Linked T n r0 d0 L hold pg d g fs p T :=
  ⟨h.good.any pg _, hd, hg, hb, h.nodup, fun f hf => ⟨(h.each f hf).1, (h.each f hf).2.1, (h.each f hf).2.2.1, (h.each f hf).2.2.2.1⟩, rfl, fun _ _ _ e => e, fun _ e => .inl e, h.n, fun x _ hx => h.dat x hx, fun f hf => ⟨(h.each2 f hf).1, (h.each2 f hf).2, (h.each f hf).2.2.2.2⟩, fun _ e => .inl e, by have := h.room; omega⟩
theorem Linked.live {T T' : Tab} {n r0 : Nat} {d0 : Nat → Nat → Nat} {L : List Slot} {hold : Nat → Nat} {pg d g : Nat} {fs : List Nat} {p : Pool} (h : Linked T n r0 d0 L hold pg d g fs p T') : g < p.n ∧ 1 ≤ p.cnt g := h.good.node h.node
theorem Linked.step {T T' : Tab} {n r0 : Nat} {d0 : Nat → Nat → Nat} {L : List Slot} {hold : Nat → Nat} {pg d g f : Nat} {fs : List Nat} {p : Pool} (h : Linked T n r0 d0 L hold pg d g (f :: fs) p T') :
    Linked T n r0 d0 L hold pg (d + 1) f fs (p.store g (setWord (p.dat g) (num pg (4 - d)) (f * 4096 + 1))) (T'.put (3 - d) (part pg (3 - d)) (some f)) := by
  have hd := h.deep
  simp only [List.length_cons] at hd
  have hd3 : d < 3 := by omega
  have hnone : T'.nd (3 - d) (part pg (3 - d)) = none := h.below.resolve_left (by omega)
  obtain ⟨f1, f2, f3, f4⟩ := h.each f (List.mem_cons_self ..)
  have hp := List.nodup_cons.1 h.nodup
  have e1 : 4 - d = (3 - d) + 1 := by omega
  have hnode := h.node
  rw [e1] at hnode
  have hr : 0 < plus hold (f :: fs) f := by unfold plus; rw [if_pos (List.mem_cons_self ..)]; omega
  have hl := h.good.link (lv := 3 - d) (f := f) (by omega) (by omega) (.inr e1) hnone hnode f1 f2 f3 (by unfold held; omega)
  rw [held_less _ _ _ hr, plus_cons hp.1 f4] at hl
  have e2 : 4 - (d + 1) = 3 - d := by omega
  have e3 : 3 - (d + 1) = 2 - d := by omega
  have hgf : ∀ x, x ∈ fs → x ≠ g := fun x hx e => (h.each x (List.mem_cons_of_mem _ hx)).2.1 ⟨4 - d, part pg (4 - d), by rw [h.node, e]⟩
  refine ⟨by rw [e2, e1]; exact hl, by omega, by rw [e2]; exact Tab.put_at _ _ _ _, ?_, hp.2, fun x hx => ?_, h.lf, fun lv q x hx => ?_, fun x hx => ?_, h.n, fun x hn hx => ?_, fun x hx => h.each2 x (List.mem_cons_of_mem _ hx), fun x hx => ?_, h.room⟩
  · rcases Nat.lt_or_ge d 2 with h2 | h2
    · right
      rw [e3, Tab.put_ne _ _ _ _ (by omega)]
      cases hc : T'.nd (2 - d) (part pg (2 - d)) with
      | none => rfl
      | some y =>
        have h5 := h.good.but.above _ _ _ hc (by omega)
        rw [part_up, show 2 - d + 1 = 3 - d from by omega, hnone] at h5
        cases h5
    · left; omega
  · obtain ⟨x1, x2, x3, x4⟩ := h.each x (List.mem_cons_of_mem _ hx)
    refine ⟨x1, fun e => ?_, (upd_ne _ _ (hgf x hx)).trans x3, x4⟩
    rcases isNode_put.1 e with e4 | ⟨l, r, _, e5⟩
    · injection e4 with e4
      exact hp.1 (e4 ▸ hx)
    · exact x2 ⟨l, r, e5⟩
  · have h5 := h.mono lv q x hx
    rw [Tab.put_ne]
    · exact h5
    · rintro ⟨rfl, rfl⟩
      rw [hnone] at h5
      cases h5
  · rcases isNode_put.1 hx with e4 | ⟨l, r, _, e5⟩
    · injection e4 with e4
      exact .inr (e4 ▸ f4)
    · exact h.only x ⟨l, r, e5⟩
  · have hxg : x ≠ g := fun e => by
      subst e
      rcases h.only2 x ⟨_, _, h.node⟩ with h9 | h9
      · exact hn h9
      · omega
    exact (upd_ne _ _ hxg).trans (h.dat x hn hx)
  · rcases isNode_put.1 hx with e4 | ⟨l, r, _, e5⟩
    · injection e4 with e4
      subst e4
      exact .inr ⟨f4, h.each2 f (List.mem_cons_self ..)⟩
    · exact h.only2 x ⟨l, r, e5⟩
/-- All are linked: the leaf is laid. -/
theorem Linked.fin {T T' : Tab} {n r0 : Nat} {d0 : Nat → Nat → Nat} {L : List Slot} {hold : Nat → Nat} {pg g : Nat} {p : Pool} {l : Leaf} (h : Linked T n r0 d0 L hold pg 3 g [] p T') (hpg : pg < pagesN) (hno : T.lf pg = none) (h7 : l.prot ≤ 7) (hf : l.frame < n) (hh : 0 < hold l.frame) :
    (T'.lay pg (some l)).Good (p.store g (setWord (p.dat g) (num pg 1) l.pack)) (held L (upd hold l.frame (hold l.frame - 1))) pg 4 ∧ (T'.lay pg (some l)).lf = upd T.lf pg (some l) ∧ (∀ lv q f, T.nd lv q = some f → (T'.lay pg (some l)).nd lv q = some f) ∧ (isNode (T'.lay pg (some l)) l.frame → isNode T l.frame) := by
  have hg := h.good
  rw [plus_nil] at hg
  have hl := hg.layNew (.inr rfl) hpg h.node (by rw [h.lf]; exact hno) h7 (by rw [h.n]; exact hf) (by unfold held; omega)
  rw [held_less _ _ _ hh] at hl
  exact ⟨hl, by show upd T'.lf pg (some l) = _; rw [h.lf], h.mono, fun e => (h.only _ e).resolve_right (by omega)⟩

theorem Linked.fin2 {T T' : Tab} {n r0 : Nat} {d0 : Nat → Nat → Nat} {L : List Slot} {hold : Nat → Nat} {pg g : Nat} {p : Pool} (h : Linked T n r0 d0 L hold pg 3 g [] p T') (o : Option Leaf) (d : Nat → Nat) :
    (∀ x, ¬ isNode T x → 0 < hold x + leafCnt T x + slotN L x → (p.store g d).dat x = d0 x) ∧ (∀ x, isNode (T'.lay pg o) x → isNode T x ∨ (p.store g d).cnt x = 1) ∧ r0 ≤ (p.store g d).left + 3 :=
  ⟨fun x hn hx => by
    have hxg : x ≠ g := fun e => by
      subst e
      rcases h.only2 x ⟨_, _, h.node⟩ with h9 | h9
      · exact hn h9
      · omega
    exact (upd_ne _ _ hxg).trans (h.dat x hn hx), fun x hx => (h.only2 x hx).imp id (fun e => e.2.2.2), h.room⟩

end Go.Proofs.YtkkmcnngpahfaaaGreatDoor

namespace Go.Proofs.YtkkmcnngpahfaaaGreatDoor
set_option linter.unusedSimpArgs false
set_option linter.unusedVariables false

def fresh (n : Nat) : Pool := ⟨n, fun _ => 0, fun _ _ => 0⟩
theorem fresh_lowest {n : Nat} (h : 1 ≤ n) : (fresh n).lowest = some 0 := lowest_is (p := fresh n) (by show 0 < n; omega) rfl (fun g hg => by omega)
def rootTab (r : Nat) : Tab := ⟨fun lv q => if lv = 4 ∧ q = 0 then some r else none, fun _ => none⟩
theorem rootTab_nd {r lv q f : Nat} : (rootTab r).nd lv q = some f ↔ lv = 4 ∧ q = 0 ∧ f = r := by
  show (if lv = 4 ∧ q = 0 then some r else none) = some f ↔ _
  constructor
  · intro h
    by_cases c : lv = 4 ∧ q = 0
    · rw [if_pos c] at h
      injection h with h
      exact ⟨c.1, c.2, h.symm⟩
    · rw [if_neg c] at h
      cases h
  · rintro ⟨h1, h2, h3⟩
    rw [if_pos ⟨h1, h2⟩, h3]
theorem rootTab_root (r : Nat) : (rootTab r).nd 4 0 = some r := rootTab_nd.2 ⟨rfl, rfl, rfl⟩
theorem rootTab_node {r f : Nat} : isNode (rootTab r) f ↔ f = r := by
  constructor
  · rintro ⟨lv, q, h⟩
    exact (rootTab_nd.1 h).2.2
  · rintro rfl
    exact ⟨4, 0, rootTab_root _⟩
theorem rootTab_leafCnt (r f : Nat) : leafCnt (rootTab r) f = 0 := cntTo_zero.2 fun i _ => rfl
theorem rootTab_good {n : Nat} (h1 : 1 ≤ n) (h2 : n ≤ 1024) : (rootTab 0).Good ((fresh n).takeAt 0) (held [] fun _ => 0) 0 4 := by
  constructor
  · constructor
    · rw [rootTab_root]; rfl
    · intro q f h; exact (rootTab_nd.1 h).2.1
    · intro lv q f h; have := (rootTab_nd.1 h).1; omega
    · intro lv q f h h4; have := (rootTab_nd.1 h).1; omega
    · intro pg l h; cases h
    · intro l1 p1 l2 p2 f h h'
      have a := rootTab_nd.1 h
      have b := rootTab_nd.1 h'
      exact ⟨by omega, by omega⟩
    · intro lv q f h
      obtain ⟨rfl, rfl, rfl⟩ := rootTab_nd.1 h
      refine ⟨(by show 0 < n; omega), fun k hk => ?_⟩
      have e1 : ((fresh n).takeAt 0).dat 0 = fun _ => 0 := upd_same (fun _ _ => 0) 0 (fun _ => 0)
      rw [e1, word_zero]
      unfold Tab.word
      rw [if_neg (by omega)]
      show 0 = match (rootTab 0).nd 3 (0 * 512 + k) with | some f => f * 4096 + 1 | none => 0
      have e2 : (rootTab 0).nd 3 (0 * 512 + k) = none := rfl
      rw [e2]
    · intro lv q f h h4; have := (rootTab_nd.1 h).1; omega
    · exact h2
  · intro f hf
    show upd (fun _ => 0) 0 1 f = _
    rw [rootTab_leafCnt]
    have e : held [] (fun _ => 0) f = 0 := rfl
    rw [e]
    by_cases c : f = 0
    · subst c
      rw [upd_same, nodeCnt_yes (rootTab_node.2 rfl)]
    · rw [upd_ne _ _ c, nodeCnt_no (fun h => c (rootTab_node.1 h))]

theorem leafCnt_one {t T' : Tab} {pg f : Nat} {l : Leaf} (hpg : pg < pagesN) (h0 : leafCnt t f = 0) (hno : leafIs t f pg = false) (hlf : T'.lf = upd t.lf pg (some l)) (hf : l.frame = f) : leafCnt T' f = 1 := by
  have e2 : leafIs T' f = leafIs (t.lay pg (some l)) f := by
    funext i
    unfold leafIs Tab.lay
    rw [hlf]
  have h1 : leafCnt T' f = leafCnt (t.lay pg (some l)) f := by
    unfold leafCnt
    rw [e2]
  have h2 := leafCnt_lay (t := t) hpg (some l) f
  rw [h0, hno, ← h1] at h2
  generalize leafCnt T' f = x at h2 ⊢
  simpa [hf] using h2

end Go.Proofs.YtkkmcnngpahfaaaGreatDoor

namespace Go.Proofs.YtkkmcnngpahfaaaGreatDoor
set_option linter.unusedSimpArgs false
set_option linter.unusedVariables false

/-- What Get comes to: the files' Read answers r0, and k bytes d. -/
inductive GetRes (ino page r0 : Int) (k : Nat) (d : Nat → Nat) (p : Pool) (L : List Slot) (clock : Int) : Int → Nat → Pool → List Slot → Int → Prop
  | bad : page < 0 ∨ 16 ≤ page → GetRes ino page r0 k d p L clock 1 0 p L clock
  | err : 0 ≤ page → page < 16 → r0 ≠ 0 → GetRes ino page r0 k d p L clock r0 0 p L clock
  | hit (s : Slot) : 0 ≤ page → page < 16 → r0 = 0 → L.find? (Slot.at ino page) = some s → GetRes ino page r0 k d p L clock 0 s.frame p (slPut L ⟨ino, page, s.frame, clock + 1⟩) (clock + 1)
  | full : 0 ≤ page → page < 16 → r0 = 0 → L.find? (Slot.at ino page) = none → TakeRes p L 4 0 p L → GetRes ino page r0 k d p L clock 4 0 p L clock
  | miss (f : Nat) (p1 : Pool) (L1 : List Slot) : 0 ≤ page → page < 16 → r0 = 0 → L.find? (Slot.at ino page) = none → TakeRes p L 0 f p1 L1 → GetRes ino page r0 k d p L clock 0 f (p1.store f (laid (p1.dat f) d 0 k)) (slPut L1 ⟨ino, page, f, clock + 1⟩) (clock + 1)

theorem find_none_any {L : List Slot} {i g : Int} (h : L.find? (Slot.at i g) = none) : L.any (Slot.at i g) = false := by
  rw [List.any_eq_false]
  rw [List.find?_eq_none] at h
  exact h
theorem find_some_at {L : List Slot} {i g : Int} {s : Slot} (h : L.find? (Slot.at i g) = some s) : s ∈ L ∧ s.ino = i ∧ s.page = g := ⟨List.mem_of_find?_eq_some h, Slot.at_iff.1 (List.find?_some h)⟩
theorem slotN_new {L : List Slot} {s : Slot} (h : L.any (Slot.at s.ino s.page) = false) (f : Nat) : slotN (slPut L s) f = slotN L f + if s.frame = f then 1 else 0 := by
  unfold slPut slotN
  rw [if_neg (by rw [h]; decide), List.countP_append]
  by_cases e : s.frame = f
  · simp [e]
  · simp [e]
theorem slotN_old {L : List Slot} (h : Sole L) {s0 s : Slot} (hs : s0 ∈ L) (hi : s0.ino = s.ino) (hp : s0.page = s.page) (hf : s0.frame = s.frame) (f : Nat) : slotN (slPut L s) f = slotN L f := by
  unfold slPut slotN
  have hany : L.any (Slot.at s.ino s.page) = true := List.any_eq_true.2 ⟨s0, hs, Slot.at_iff.2 ⟨hi, hp⟩⟩
  rw [if_pos hany, List.countP_map]
  refine List.countP_congr fun x hx => ?_
  simp only [Function.comp_apply]
  by_cases c : Slot.at s.ino s.page x = true
  · rw [if_pos c]
    have hk := Slot.at_iff.1 c
    have : x = s0 := h.eq hx hs ⟨hk.1.trans hi.symm, hk.2.trans hp.symm⟩
    rw [this, hf]
  · rw [if_neg c]
theorem none_sub {L L1 : List Slot} {i g : Int} (h : L.any (Slot.at i g) = false) (hs : L1.Sublist L) : L1.any (Slot.at i g) = false := by
  rw [List.any_eq_false] at h ⊢
  exact fun x hx => h x (hs.subset hx)
theorem held_put {L : List Slot} {hold : Nat → Nat} {s : Slot} (h : L.any (Slot.at s.ino s.page) = false) (h0 : hold s.frame = 0) : held (slPut L s) hold = held L (upd hold s.frame 1) := by
  funext x
  unfold held
  rw [slotN_new h]
  by_cases e : s.frame = x
  · subst e; rw [if_pos rfl, upd_same]; omega
  · rw [if_neg e, upd_ne _ _ (fun h => e h.symm)]; omega
theorem Tab.Good.get {ino page r0 : Int} {k : Nat} {d : Nat → Nat} {p p' : Pool} {T : Tab} {L L' : List Slot} {clock clock' r : Int} {hold : Nat → Nat} {pg f : Nat} (h : T.Good p (held L hold) pg 4) (hS : Sole L) (hg : GetRes ino page r0 k d p L clock r f p' L' clock') :
    T.Good p' (held L' hold) pg 4 ∧ p'.n = p.n := by
  cases hg with
  | bad h1 => exact ⟨h, rfl⟩
  | err => exact ⟨h, rfl⟩
  | hit s h0 h1 hr hs =>
    obtain ⟨hs, hi, hp⟩ := find_some_at hs
    refine ⟨?_, rfl⟩
    have : held (slPut L ⟨ino, page, s.frame, clock + 1⟩) hold = held L hold := by
      funext x
      unfold held
      rw [slotN_old (s0 := s) (s := ⟨ino, page, s.frame, clock + 1⟩) hS hs hi hp rfl]
    rw [this]
    exact h
  | full h0 h1 hr hn ht => exact ⟨h, rfl⟩
  | miss f p1 L1 h0 h1 hr hn ht =>
    obtain ⟨a1, a2, a3, a4, a5, a6, a7, a8, a9, a10⟩ := h.ctake hS ht
    have e := held_put (s := ⟨ino, page, f, clock + 1⟩) (hold := hold) (none_sub (find_none_any hn) ht.sub) a4
    rw [e]
    refine ⟨⟨a1.but.same rfl fun x hx => ?_, a1.cnt⟩, a3⟩
    show upd p1.dat f _ x = p1.dat x
    rw [upd_ne _ _ (fun e : x = f => a5 (by rw [← e]; exact hx))]
theorem GetRes.len {ino page r0 : Int} {k : Nat} {d : Nat → Nat} {p p' : Pool} {L L' : List Slot} {clock clock' r : Int} {f : Nat} (h : GetRes ino page r0 k d p L clock r f p' L' clock') : L'.length ≤ L.length + 1 ∧ clock ≤ clock' ∧ clock' ≤ clock + 1 := by
  have hput : ∀ (L : List Slot) (s : Slot), (slPut L s).length ≤ L.length + 1 := fun L s => by
    unfold slPut
    split <;> simp
  cases h with
  | bad h1 => exact ⟨by omega, by omega, by omega⟩
  | err => exact ⟨by omega, by omega, by omega⟩
  | hit s => exact ⟨hput _ _, by omega, by omega⟩
  | full => exact ⟨by omega, by omega, by omega⟩
  | miss f p1 L1 _ _ _ _ ht => exact ⟨Nat.le_trans (hput _ _) (Nat.succ_le_succ ht.sub.length_le), by omega, by omega⟩
theorem slPut_sole {L : List Slot} (h : Sole L) (s : Slot) : Sole (slPut L s) := by
  unfold slPut
  by_cases c : L.any (Slot.at s.ino s.page) = true
  · rw [if_pos c]
    refine List.pairwise_map.2 (h.imp ?_)
    intro a b hab
    have hk : ∀ x : Slot, (if Slot.at s.ino s.page x = true then s else x).ino = x.ino ∧ (if Slot.at s.ino s.page x = true then s else x).page = x.page := by
      intro x
      by_cases e : Slot.at s.ino s.page x = true
      · rw [if_pos e]
        have := Slot.at_iff.1 e
        exact ⟨this.1.symm, this.2.symm⟩
      · rw [if_neg e]; exact ⟨rfl, rfl⟩
    rw [(hk a).1, (hk a).2, (hk b).1, (hk b).2]
    exact hab
  · rw [if_neg c]
    refine List.pairwise_append.2 ⟨h, List.pairwise_singleton _ _, ?_⟩
    intro a ha b hb
    rw [List.mem_singleton] at hb
    subst hb
    intro e
    exact c (List.any_eq_true.2 ⟨a, ha, Slot.at_iff.2 e⟩)
theorem slPut_mem {L : List Slot} {s x : Slot} (h : x ∈ slPut L s) : x ∈ L ∨ x = s := by
  unfold slPut at h
  split at h
  · obtain ⟨y, hy, e⟩ := List.mem_map.1 h
    split at e
    · exact .inr e.symm
    · exact .inl (e ▸ hy)
  · rcases List.mem_append.1 h with h | h
    · exact .inl h
    · exact .inr (List.mem_singleton.1 h)
theorem TakeRes.size {p p' : Pool} {L L' : List Slot} {r : Int} {f : Nat} (h : TakeRes p L r f p' L') : p'.n = p.n ∧ (r = 0 → f < p.n) := by
  cases h with
  | free f h1 => exact ⟨rfl, fun _ => (lowest_some h1).1⟩
  | loose s h1 h2 h3 => exact ⟨rfl, fun _ => h3⟩
  | none => exact ⟨rfl, fun e => by cases e⟩
theorem GetRes.slow {ino page r0 : Int} {k : Nat} {d : Nat → Nat} {p p' : Pool} {L L' : List Slot} {clock clock' r : Int} {f n : Nat} (h : GetRes ino page r0 k d p L clock r f p' L' clock') (hn : p.n = n) (hL : ∀ s ∈ L, s.frame < n) : ∀ s ∈ L', s.frame < n := by
  cases h with
  | bad => exact hL
  | err => exact hL
  | hit s _ _ _ hs =>
    intro x hx
    rcases slPut_mem hx with hx | rfl
    · exact hL x hx
    · exact hL s (find_some_at hs).1
  | full => exact hL
  | miss f p1 L1 _ _ _ _ ht =>
    intro x hx
    rcases slPut_mem hx with hx | rfl
    · exact hL x (ht.sub.subset hx)
    · rw [← hn]; exact ht.size.2 rfl
theorem GetRes.sole {ino page r0 : Int} {k : Nat} {d : Nat → Nat} {p p' : Pool} {L L' : List Slot} {clock clock' r : Int} {f : Nat} (h : GetRes ino page r0 k d p L clock r f p' L' clock') (hS : Sole L) : Sole L' := by
  cases h with
  | bad => exact hS
  | err => exact hS
  | hit s => exact slPut_sole hS _
  | full => exact hS
  | miss f p1 L1 _ _ _ _ ht => exact slPut_sole (hS.sublist ht.sub) _

end Go.Proofs.YtkkmcnngpahfaaaGreatDoor

namespace Go.Proofs.YtkkmcnngpahfaaaGreatDoor
open Go.RowKit Go.Maps Go.WideMaps Go.Sort
open Go.ChangeMaps (setBlock)
set_option linter.unusedSimpArgs false
set_option linter.unusedVariables false

/-- The pool when all but some of the slots are given up. -/
def dropTo (p : Pool) (L left : List Slot) : Pool := ⟨p.n, fun f => p.cnt f - (slotN L f - slotN left f), p.dat⟩
theorem dropTo_start (p : Pool) (L : List Slot) : dropTo p L L = p := by
  obtain ⟨n, c, d⟩ := p
  unfold dropTo
  congr 1
  funext f
  simp
theorem slotN_filter (L : List Slot) (q : Slot → Bool) (f : Nat) : slotN (L.filter q) f ≤ slotN L f := List.Sublist.countP_le List.filter_sublist
structure DropOk (p : Pool) (L left : List Slot) : Prop where
  sole : Sole left
  le : ∀ f, slotN left f ≤ slotN L f
  sub : ∀ s ∈ left, s ∈ L
theorem dropTo_step {p : Pool} {L left : List Slot} (h : DropOk p L left) (hc : ∀ s ∈ L, s.frame < p.n ∧ slotN L s.frame ≤ p.cnt s.frame) {s : Slot} (hs : s ∈ left) :
    s.frame < (dropTo p L left).n ∧ 1 ≤ (dropTo p L left).cnt s.frame ∧ (dropTo p L left).down s.frame = dropTo p L (left.filter fun x => !Slot.at s.ino s.page x) ∧ DropOk p L (left.filter fun x => !Slot.at s.ino s.page x) := by
  have hc1 := hc s (h.sub s hs)
  have h1 := slotN_pos hs
  have h2 := h.le s.frame
  refine ⟨hc1.1, ?_, ?_, h.sole.drop _, fun f => Nat.le_trans (slotN_filter _ _ f) (h.le f), fun x hx => h.sub x (List.mem_filter.1 hx).1⟩
  · show 1 ≤ p.cnt s.frame - (slotN L s.frame - slotN left s.frame)
    omega
  · unfold Pool.down dropTo
    simp only
    congr 1
    funext f
    have h3 := slotN_drop h.sole hs f
    have h4 := h.le f
    by_cases e : f = s.frame
    · subst e
      rw [upd_same]
      rw [if_pos rfl] at h3
      omega
    · rw [upd_ne _ _ e]
      rw [if_neg (fun e2 => e e2.symm)] at h3
      omega
theorem wpList_clear_slots {ops : Array Oper} {rest : List Oper} {o : Oper} {A : Act} {w : World} {Q : Exit → Act → World → Prop} (hg : o.guard = none) (x : Operand) (hop : o.op = Op.call { callee := Callee.builtin Builtin.clear, args := #[x], argTypes := #[155] })
    (m : Nat) (L : List Slot) (hx : A.eval x = .map (some m)) (h : SlotsAt w m L)
    (hK : ∀ w', SlotsAt w' m [] → Mod (fun j => j = m) w w' → w'.heap.size = w.heap.size → wpList Tryz.prog ops Q rest (A.put o.dst (.tuple #[])) w') :
    wpList Tryz.prog ops Q (o :: rest) A w := by
  refine wpList_plain hg fun K' hK' => ?_
  obtain ⟨es, clk, h1⟩ := h
  have hb := h1.block
  have hlt : m < w.heap.size := (Array.getElem?_eq_some_iff.1 hb).1
  have hrun : (Builtin.clear_ #[155] o.type #[.map (some m)]).run Tryz.prog w = .ok (.tuple #[]) (setBlock w m (.map #[] clk)) := by
    simp [Builtin.clear_, run_underlying Tryz.underlying155, MapKept.run_getObj_map hb, MapKept.run_setObj_map _ hb, Result.andThen, setBlock]
  unfold Oper.wp
  simp [execOp, hop, resolve, invoke, builtin, hx, hrun, Result.andThen]
  exact hK' _ _ (hK _ ⟨#[], clk, sb_same hlt, ⟨(fun x hx => by cases hx), List.nodup_nil, List.nodup_nil⟩, rfl, (fun s hs => by cases hs)⟩ setBlock_mod setBlock_size)

def DropPost (w : World) (S : Nat → Prop) (c a fs m : Nat) (clock : Int) (p : Pool) (L : List Slot) (e : Ending) (w' : World) : Prop := e = .returned (.tuple #[]) ∧ CacheAt w' S c a fs m clock (dropTo p L []) [] ∧ Mod (Both S m) w w'
set_option maxRecDepth 100000 in
set_option maxHeartbeats 4000000 in
theorem drop_any (c a fs m : Nat) (clock : Int) (w : World) (S : Nat → Prop) (p : Pool) (L : List Slot) (h : CacheAt w S c a fs m clock p L) (hcnt : ∀ s ∈ L, s.frame < p.n ∧ slotN L s.frame ≤ p.cnt s.frame) :
    Calls Tryz.prog 66 #[.pointer (some ⟨c, 0, none⟩)] w (DropPost w S c a fs m clock p L) := by
  obtain ⟨hcw, hmw, hcm, hm0⟩ := h.lts
  have hslow := h.pool.low
  have hSole := h.slots.sole
  have c2 : w.cell? ⟨c, 2, none⟩ = some (.map (some m)) := one_block h.self 2
  have hsl := h.slots
  have H := Lib.hid h
  have HSL := Lib.hid hsl
  have HCNT := Lib.hid hcnt
  clear h hsl hcnt
  go_enter Tryz.func66, Tryz.ntmps66
  go_wp2_with (first
    | (at_range; refine wpList_range_slots rfl _ rfl m L rfl HSL.out ?_; intro w1 hrg1 hb1 hs1; go_frame)
    | fail)
  have HC1 := Lib.hid (H.out.below hb1)
  have HB1 := Lib.hid hb1
  have HRG := Lib.hid hrg1
  clear hb1 hrg1
  go_loopw [] (fun wr => ∃ left, RangeIs wr m w.heap.size L left ∧ DropOk p L left ∧ CacheAt wr S c a fs m clock (dropTo p L left) L ∧ Mod (Both S m) w wr ∧ w.heap.size < wr.heap.size)
    (fun wr => leftN wr m w.heap.size)
  case atStart =>
    exact ⟨L, HRG.out, ⟨hSole, fun _ => Nat.le_refl _, fun _ h => h⟩, by rw [dropTo_start]; exact HC1.out, Mod.of HB1.out, by omega⟩
  case round =>
    obtain ⟨left, hrg, hok, hC, hm, hlt⟩ := hrel
    have HC := Lib.hid hC
    have HM := Lib.hid hm
    have HOK := Lib.hid hok
    clear hC hm hok
    go_wp2_with (first
      | (at_next; refine wpList_next_slots rfl _ rfl m w.heap.size L left rfl hrg ?_ ?_)
      | fail)
    · intro hl0
      subst hl0
      have d2 : wr.cell? ⟨c, 2, none⟩ = some (.map (some m)) := one_block HC.out.self 2
      have hsl2 := HC.out.slots
      go_wp2_with (first
        | (refine wpList_clear_slots rfl _ rfl m L rfl hsl2 ?_; intro w5 hsl5 hm5 hs5)
        | fail)
      go_end0
      have hC5 : CacheAt w5 S c a fs m clock (dropTo p L []) [] := ⟨HC.out.pool.mod hm5 (fun b hb e => H.out.noM (e ▸ hb)) (fun e => hm0 e.symm), (hm5.block c HC.out.lts.1 hcm).trans HC.out.self, hsl5, H.out.noC, H.out.noM⟩
      exact ⟨rfl, hC5, HM.out.trans (Out.refl _ _) (hm5.sub fun b hb => .inr hb)⟩
    · intro s w1 hs hrg1 hm1 hs1 hen
      have HRG1 := Lib.hid hrg1
      have HEN := Lib.hid hen
      have hrl := hrg.lt
      obtain ⟨hsn, hs1c, hdown, hok2⟩ := dropTo_step HOK.out HCNT.out hs
      have hleft : (left.filter fun x => !Slot.at s.ino s.page x).length < left.length := List.length_filter_lt_length_iff_exists.2 ⟨s, hs, by simp [Slot.at]⟩
      have hleftn := hrg.leftN
      have HDN := Lib.hid hdown
      have HOK2 := Lib.hid hok2
      have HLN := Lib.hid hleftn
      clear hrg1 hdown hok2 hrg hleftn
      go_upto_region 4 with (fail)
      obtain ⟨w2, hw2⟩ : ∃ w2, w2 = w1.alloc (.cells #[.int .i64 (s.frame : Int), .int .i64 s.asked] 181) := ⟨_, rfl⟩
      rw [← hw2]
      have hb2 : Below w1.heap.size w1 w2 := by rw [hw2]; exact (Below.refl _ _).alloc (Nat.le_refl _) _
      have hH2 : w2.heap[w1.heap.size]? = some (.cells #[.int .i64 (s.frame : Int), .int .i64 s.asked] 181 (0, 0)) := by rw [hw2]; exact heap_alloc_new _ _
      have hr0 : ¬ S w.heap.size := fun e => by have := hslow _ e; omega
      have hC1 := HC.out.mod hm1 (fun b hb e => hr0 (e ▸ hb)) (by omega) (by omega) (by omega)
      have hC2 := hC1.below hb2
      have e0 : w2.cell? ⟨c, 0, none⟩ = some (.pointer (some ⟨a, 0, none⟩)) := one_block hC2.self 0
      have e1 : w2.cell? ⟨wr.heap.size, 0, none⟩ = some (.int .i64 (s.frame : Int)) := by rw [← hs1]; exact one_block hH2 0
      have hz2 := hb2.size
      have hrg2 : RangeIs w2 m w.heap.size L (left.filter fun x => !Slot.at s.ino s.page x) := HRG1.out.same (hb2.block m (by omega)) (hb2.block _ (by omega))
      have hm02 : Mod (fun b => Both S m b ∨ b = w.heap.size) w w2 := (HM.out.sub fun b hb => .inl hb).trans (Out.refl _ _) ((hm1.sub fun b hb => .inr hb).trans (Out.refl _ _) (Mod.of hb2))
      have HM02 := Lib.hid hm02
      have HC2 := Lib.hid hC2
      have HRG2 := Lib.hid hrg2
      clear hw2 hH2 hC1 hC2 hrg2 hm02
      go_still_tail 6, (by kernel_rfl)
      go_wp2_with fail
      refine (down_yes a s.frame w2.drew S _ HC2.out.pool.drew hsn hs1c).mono ?_
      rintro e w4 ⟨rfl, hP4, hm4'⟩
      rw [HDN.out] at hP4
      have hm4 := hm4'.undrew
      have hz4 := hm4.size
      have hC4 := HC2.out.turn hm4 hP4 (Out.refl _ _)
      have hrg4 : RangeIs w4 m w.heap.size L (left.filter fun x => !Slot.at s.ino s.page x) := HRG2.out.same (hm4.block m (by omega) H.out.noM) (hm4.block _ (by omega) hr0)
      have hm04 := HM02.out.trans (Out.refl _ _) (hm4.sub fun b hb => .inl (.inl hb))
      have hmB : Mod (Both S m) w w4 := ⟨hm04.os, hm04.tape, hm04.output, hm04.size, fun b hb hn => hm04.block b hb (fun e => e.elim hn (by omega))⟩
      have HRG4 := Lib.hid hrg4
      have HC4 := Lib.hid hC4
      have HMB := Lib.hid hmB
      clear hrg4 hC4 hm04 hmB hP4 hm4' hm4 e0 e1
      go_wp2_with fail
      go_roundw
      case rel => exact ⟨_, HRG4.out, HOK2.out, HC4.out, HMB.out, by omega⟩
      case measure => rw [HRG4.out.leftN, HLN.out]; exact hleft

end Go.Proofs.YtkkmcnngpahfaaaGreatDoor
