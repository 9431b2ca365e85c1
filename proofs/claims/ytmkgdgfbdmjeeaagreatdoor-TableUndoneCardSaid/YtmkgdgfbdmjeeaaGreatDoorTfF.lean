/- Frames: Take. -/
import Derived.Test.YtmkgdgfbdmjeeaaGreatDoorTfE
import Derived.LoopTactic
namespace Go.Proofs.YtmkgdgfbdmjeeaaGreatDoor
open Go.RowKit
set_option linter.unusedSimpArgs false
set_option linter.unusedVariables false

theorem zero_of_bits {x : Nat} (hx : x < 18446744073709551616) (h : ∀ j, j < 64 → x.testBit j = false) : x = 0 := by
  refine Nat.eq_of_testBit_eq fun i => ?_
  rw [Nat.zero_testBit]
  rcases Nat.lt_or_ge i 64 with h1 | h1
  · exact h i h1
  · exact Nat.testBit_lt_two_pow (Nat.lt_of_lt_of_le hx (by
      have : (2 : Nat) ^ 64 ≤ 2 ^ i := Nat.pow_le_pow_right (by decide) h1
      exact this))
theorem PoolIs.zeroWord {w : World} {a C B F : Nat} {wd : Nat → Nat} {pt : Nat → Option Nat} {p : Pool} (h : PoolIs w a C B F wd pt p) {i : Nat} (hi : i < (p.n + 63) / 64) (hz : ∀ f, f / 64 = i → f < p.n → p.cnt f ≠ 0) : wd i = 0 := by
  refine zero_of_bits (h.wds i hi).1 fun j hj => ?_
  rw [(h.wds i hi).2 j hj]
  exact decide_eq_false fun e => hz (64 * i + j) (by omega) e.1 e.2

def zpage : Array Value := rowV 4096 fun _ => .int .u8 0
theorem zpage_built : Tryz.prog.built 158 [] = some zpage := by kernel_rfl

theorem rowV_upd {α : Type} (n : Nat) (F : α → Value) (c : Nat → α) (g : Nat) (x : α) : rowV n (upd (fun i => F (c i)) g (F x)) = rowV n fun i => F (upd c g x i) := rowV_congr fun i _ => by
  by_cases e : i = g
  · subst e; rw [upd_same, upd_same]
  · rw [upd_ne _ _ e, upd_ne _ _ e]

theorem wpList_zpage {ops : Array Oper} {rest : List Oper} {o : Oper} {a : Act} {w : World} {Q : Exit → Act → World → Prop} (hg : o.guard = none) (ho : o.op = .build 158 #[])
    (h : wpList Tryz.prog ops Q rest (a.put o.dst (.agg zpage)) w) : wpList Tryz.prog ops Q (o :: rest) a w := by
  refine wpList_build hg 158 #[] ho ?_ ?_
  · simp [zpage_built]
  · have e : (Tryz.prog.built 158 ((#[] : Array (Nat × Operand)).map fun (i, x) => (i, a.eval x)).toList).getD #[] = zpage := by simp [zpage_built]
    rw [e]
    exact h

/-- A free frame is taken: its count is 1, its bytes are new. -/
theorem PoolIs.taken {w W : World} {a C B F nb : Nat} {wd : Nat → Nat} {pt : Nat → Option Nat} {p : Pool} (h : PoolIs w a C B F wd pt p) {g : Nat} (hg : g < p.n) (h0 : p.cnt g = 0) (hnb : nb ≠ a ∧ nb ≠ C ∧ nb ≠ B ∧ nb ≠ F) (hold : ∀ f b, f < p.n → 0 < p.cnt f → pt f = some b → b ≠ nb)
    (hC : W.heap[C]? = some (.cells (rowV p.n fun f => .int .i64 ((upd p.cnt g 1 f : Nat) : Int)) 3 (0, 0)))
    (hB : W.heap[B]? = some (.cells (rowV p.n fun f => .pointer ((upd pt g (some nb) f).map fun b => ⟨b, 0, none⟩)) 156 (0, 0)))
    (hF : W.heap[F]? = some (.cells (rowV ((p.n + 63) / 64) fun i => .int .u64 ((upd wd (g / 64) (wd (g / 64) &&& (18446744073709551615 - 2 ^ (g % 64))) i : Nat) : Int)) 36 (0, 0)))
    (hA : W.heap[a]? = some (.cells #[.slice (some ⟨C, 0, none⟩) p.n p.n, .slice (some ⟨B, 0, none⟩) p.n p.n, .slice (some ⟨F, 0, none⟩) ((p.n + 63) / 64) ((p.n + 63) / 64), .int .i64 ((p.left : Int) - 1)] 127 (0, 0)))
    (hN : W.heap[nb]? = some (.cells zpage 158 (0, 0)))
    (far : ∀ b, b ≠ a → b ≠ C → b ≠ B → b ≠ F → b ≠ nb → W.heap[b]? = w.heap[b]?) :
    PoolIs W a C B F (upd wd (g / 64) (wd (g / 64) &&& (18446744073709551615 - 2 ^ (g % 64)))) (upd pt g (some nb)) (p.takeAt g) := by
  have hl : (p.takeAt g).left + 1 = p.left := by
    have := freeTo_upd (c := p.cnt) (x := 1) hg
    rw [if_pos h0, if_neg (by omega)] at this
    exact this
  have hc : ∀ f, f ≠ g → (p.takeAt g).cnt f = p.cnt f := fun f e => upd_ne _ _ e
  refine ⟨?_, hC, hB, hF, fun i hi => ?_, fun f hf hp => ?_, fun f k b hf hk h1 h2 e1 e2 => ?_, h.apart, fun f i => ?_, h.few, fun f => ?_⟩
  · rw [hA, show ((p.left : Int) - 1) = ((p.takeAt g).left : Int) from by omega]
    rfl
  · by_cases e : i = g / 64
    · subst e
      rw [upd_same]
      refine ⟨clr_lt (h.wds _ hi).1, fun j hj => ?_⟩
      rw [clr_test (Nat.mod_lt _ (by decide)) hj, (h.wds _ hi).2 j hj]
      by_cases e2 : j = g % 64
      · subst e2
        rw [decide_eq_true (rfl : g % 64 = g % 64), Bool.not_true, Bool.and_false]
        refine (decide_eq_false fun e => ?_).symm
        have e3 := e.2
        rw [show 64 * (g / 64) + g % 64 = g from by omega] at e3
        simp only [Pool.takeAt, upd_same] at e3
        omega
      · rw [show decide (g % 64 = j) = false from decide_eq_false (fun e' => e2 e'.symm), Bool.not_false, Bool.and_true]
        exact decide_eq_decide.2 (by rw [hc (64 * (g / 64) + j) (by omega)]; exact Iff.rfl)
    · rw [upd_ne _ _ e]
      refine ⟨(h.wds i hi).1, fun j hj => ?_⟩
      rw [(h.wds i hi).2 j hj]
      exact decide_eq_decide.2 (by rw [hc (64 * i + j) (by omega)]; exact Iff.rfl)
  · by_cases e : f = g
    · subst e
      refine ⟨nb, upd_same _ _ _, ?_, hnb⟩
      rw [hN]
      have : zpage = rowV 4096 fun i => .int .u8 ((p.takeAt f).dat f i : Int) := rowV_congr fun i _ => by simp [Pool.takeAt, upd_same]
      rw [this]
    · rw [hc f e] at hp
      obtain ⟨b, e1, e2, e3⟩ := h.bytes f hf hp
      refine ⟨b, by rw [upd_ne _ _ e]; exact e1, ?_, e3⟩
      rw [far b e3.1 e3.2.1 e3.2.2.1 e3.2.2.2 (hold f b hf hp e1), e2]
      simp [Pool.takeAt, upd_ne _ _ e]
  · by_cases ef : f = g
    · by_cases ek : k = g
      · rw [ef, ek]
      · subst ef
        rw [upd_same] at e1
        injection e1 with e1
        subst e1
        rw [upd_ne _ _ ek] at e2
        rw [hc k ek] at h2
        exact absurd rfl (hold k _ hk h2 e2)
    · by_cases ek : k = g
      · subst ek
        rw [upd_same] at e2
        injection e2 with e2
        subst e2
        rw [upd_ne _ _ ef] at e1
        rw [hc f ef] at h1
        exact absurd rfl (hold f _ hf h1 e1)
      · rw [upd_ne _ _ ef] at e1
        rw [upd_ne _ _ ek] at e2
        rw [hc f ef] at h1
        rw [hc k ek] at h2
        exact h.sole f k b hf hk h1 h2 e1 e2
  · by_cases e : f = g
    · subst e; simp [Pool.takeAt, upd_same]
    · simp only [Pool.takeAt, upd_ne _ _ e]; exact h.small f i
  · by_cases e : f = g
    · subst e; simp only [Pool.takeAt, upd_same]; decide
    · rw [hc f e]; exact h.cap f

def TakePost (w : World) (S : Nat → Prop) (a : Nat) (p : Pool) (f : Nat) (e : Ending) (w' : World) : Prop :=
  e = .returned (.tuple #[.int .i64 (f : Int), .int .i64 0]) ∧ ∃ S', PoolAt w' S' a (p.takeAt f) ∧ Mod S w w' ∧ Out S S' w

set_option maxRecDepth 100000 in
set_option maxHeartbeats 2000000 in
theorem take_none (a : Nat) (w : World) (S : Nat → Prop) (p : Pool) (h : PoolAt w S a p) (hl : p.lowest = none) :
    Calls Tryz.prog 33 #[.pointer (some ⟨a, 0, none⟩)] w fun e w' => e = .returned (.tuple #[.int .i64 0, .int .i64 4]) ∧ w = w' := by
  have hno := lowest_none hl
  obtain ⟨⟨C, B, F, wd, pt, hi, hS⟩, hlow, _, _⟩ := h
  have h2 : w.cell? ⟨a, 2, none⟩ = some (.slice (some ⟨F, 0, none⟩) ((p.n + 63) / 64) ((p.n + 63) / 64)) := one_block hi.self 2
  have hn := hi.few.2
  have HI := Lib.hid hi
  have HN := Lib.hid hno
  clear hi hS hlow hno hl
  generalize hm : (p.n + 63) / 64 = m at *
  have HM := Lib.hid hm
  have hm9 : m ≤ 16 := by omega
  clear hm
  go_enter Tryz.func33, Tryz.ntmps33
  go_wp2
  go_loop [14] (fun i => ∃ k : Nat, k ≤ m ∧ i = .int .i64 k) (fun i => m - (intOf i).toNat)
  case atStart => exact ⟨0, Nat.zero_le _, rfl⟩
  case round =>
    obtain ⟨k, hk, rfl⟩ := hrel
    by_cases hlt : k < m
    · have hw := row_cell HI.out.free (i := k) (by rw [HM.out]; exact hlt)
      rw [HI.out.zeroWord (i := k) (by rw [HM.out]; exact hlt) (fun f _ hf => HN.out f hf)] at hw
      go_wp2
      go_round
      case rel => exact ⟨k + 1, by omega, by go_num⟩
      case measure => simp [intOf]; omega
    · go_wp2
      go_ret2
      exact ⟨rfl, rfl⟩

set_option maxRecDepth 100000 in
set_option maxHeartbeats 4000000 in
theorem take_some (a g : Nat) (w : World) (S : Nat → Prop) (p : Pool) (h : PoolAt w S a p) (hl : p.lowest = some g) :
    Calls Tryz.prog 33 #[.pointer (some ⟨a, 0, none⟩)] w (TakePost w S a p g) := by
  obtain ⟨hg, hg0, hlow1⟩ := lowest_some hl
  have HP := Lib.hid h
  obtain ⟨⟨C, B, F, wd, pt, hi, hS⟩, hlow, htab, _⟩ := h
  have h0 : w.cell? ⟨a, 0, none⟩ = some (.slice (some ⟨C, 0, none⟩) p.n p.n) := one_block hi.self 0
  have h1 : w.cell? ⟨a, 1, none⟩ = some (.slice (some ⟨B, 0, none⟩) p.n p.n) := one_block hi.self 1
  have h2 : w.cell? ⟨a, 2, none⟩ = some (.slice (some ⟨F, 0, none⟩) ((p.n + 63) / 64) ((p.n + 63) / 64)) := one_block hi.self 2
  have h3 : w.cell? ⟨a, 3, none⟩ = some (.int .i64 (p.left : Int)) := one_block hi.self 3
  have f3 := one_free hi.self 3
  have hn := hi.few.2
  have hle : p.left ≤ p.n := freeTo_le _ _
  have hpos : 1 ≤ p.left := by
    have := freeTo_upd (c := p.cnt) (x := 1) hg
    rw [if_pos hg0, if_neg (by omega)] at this
    unfold Pool.left
    omega
  have hc0 := row_cell hi.counts hg
  have hf0 := one_free hi.counts g
  have hb0 := row_cell hi.ptrs hg
  have hbf := one_free hi.ptrs g
  have hgw : g / 64 < (p.n + 63) / 64 := by omega
  have hw := row_cell hi.free hgw
  have hwf := one_free hi.free (g / 64)
  obtain ⟨n1, n2, n3, n4, n5, n6⟩ := hi.apart
  have z1 := hlow a hS.1
  have z2 := hlow C hS.2.1
  have z3 := hlow B hS.2.2.1
  have z4 := hlow F hS.2.2.2.1
  have hx := (hi.wds _ hgw).1
  have hctz : Lib.ctz 64 (wd (g / 64)) = g % 64 := ctz_bits hx (Nat.mod_lt _ (by decide)) (by
      rw [(hi.wds _ hgw).2 _ (Nat.mod_lt _ (by decide))]
      rw [show 64 * (g / 64) + g % 64 = g from by omega]
      exact decide_eq_true ⟨hg, hg0⟩) (fun j hj => by
      rw [(hi.wds _ hgw).2 _ (by omega)]
      exact decide_eq_false fun e => hlow1 _ (by omega) e.2)
  have hx0 : wd (g / 64) ≠ 0 := fun e => by
    have := (hi.wds _ hgw).2 (g % 64) (Nat.mod_lt _ (by decide))
    rw [show 64 * (g / 64) + g % 64 = g from by omega, decide_eq_true ⟨hg, hg0⟩, e] at this
    simp at this
  have htz := tz_any _ hx hx0 w htab
  rw [hctz] at htz
  have HTZ := Lib.hid htz
  have hx0' : ((wd (g / 64) : Int) == 0) = false := by rw [beq_eq_false_iff_ne]; omega
  have HI := Lib.hid hi
  have HLOW := Lib.hid hlow1
  clear hi hlow htab hctz hx0 htz hlow1 hl
  generalize hm : (p.n + 63) / 64 = m at *
  have HM := Lib.hid hm
  have hm9 : m ≤ 16 := by omega
  clear hm
  go_enter Tryz.func33, Tryz.ntmps33
  go_wp2
  go_loop [14] (fun i => ∃ k : Nat, k ≤ g / 64 ∧ i = .int .i64 k) (fun i => m - (intOf i).toNat)
  case atStart => exact ⟨0, Nat.zero_le _, rfl⟩
  case round =>
    obtain ⟨k, hk, rfl⟩ := hrel
    by_cases hlt : k < g / 64
    · have hw := row_cell HI.out.free (i := k) (by rw [HM.out]; omega)
      rw [HI.out.zeroWord (i := k) (by rw [HM.out]; omega) (fun f _ hf => HLOW.out f (by omega))] at hw
      go_wp2
      go_round
      case rel => exact ⟨k + 1, by omega, by go_num⟩
      case measure => simp [intOf]; omega
    · obtain rfl : k = g / 64 := by omega
      clear hlt hk
      go_wp2_with (go_at_call 95; refine (HTZ.out).mono ?_; rintro e w1 ⟨rfl, rfl⟩)
      rw [show ((g : Int) / 64 * 64 + (g : Int) % 64) = (g : Int) from by omega]
      go_region
      go_wp2_with ((with_reducible refine wpList_zpage rfl rfl ?_))
      go_ret2
      have hm : Mod S w ((((((w.setCell ⟨F, g / 64, none⟩ (.int .u64 (bits .andNot .u64 (wd (g / 64) : Int) (IntKind.u64.wrap (2 ^ (g % 64)))))).setCell ⟨a, 3, none⟩ (.int .i64 ((p.left : Int) - 1))).setCell ⟨C, g, none⟩ (.int .i64 1)).setCell ⟨B, g, none⟩ (.pointer (some ⟨w.heap.size, 0, none⟩))).alloc (.cells zpage 158)).drew) :=
        (((((mod_set hS.2.2.2.1 _ _).trans (Out.refl _ _) (mod_set hS.1 _ _)).trans (Out.refl _ _) (mod_set hS.2.1 _ _)).trans (Out.refl _ _) (mod_set hS.2.2.1 _ _)).trans (Out.refl _ _) (Mod.of ((Below.refl _ _).alloc (Nat.le_refl _) _))).drew
      rw [clr_bit hx (Nat.mod_lt _ (by decide))] at hm ⊢
      have ho : Out S (fun b => S b ∨ b = w.heap.size) w := fun b hb => by
        rcases hb with hb | hb
        · exact .inl hb
        · right; omega
      have hin : PoolIn ((((((w.setCell ⟨F, g / 64, none⟩ (.int .u64 ((wd (g / 64) &&& (18446744073709551615 - 2 ^ (g % 64)) : Nat) : Int))).setCell ⟨a, 3, none⟩ (.int .i64 ((p.left : Int) - 1))).setCell ⟨C, g, none⟩ (.int .i64 1)).setCell ⟨B, g, none⟩ (.pointer (some ⟨w.heap.size, 0, none⟩))).alloc (.cells zpage 158)).drew) (fun b => S b ∨ b = w.heap.size) a (p.takeAt g) := by
        generalize hX : (((w.setCell ⟨F, g / 64, none⟩ (.int .u64 ((wd (g / 64) &&& (18446744073709551615 - 2 ^ (g % 64)) : Nat) : Int))).setCell ⟨a, 3, none⟩ (.int .i64 ((p.left : Int) - 1))).setCell ⟨C, g, none⟩ (.int .i64 1)).setCell ⟨B, g, none⟩ (.pointer (some ⟨w.heap.size, 0, none⟩)) = X
        have hXs : X.heap.size = w.heap.size := by rw [← hX]; simp
        have far : ∀ b, b ≠ a → b ≠ C → b ≠ B → b ≠ F → X.heap[b]? = w.heap[b]? := fun b h1 h2 h3 h4 => by
          rw [← hX, Below.heap_setCell _ _ _ _ h3, Below.heap_setCell _ _ _ _ h2, Below.heap_setCell _ _ _ _ h1, Below.heap_setCell _ _ _ _ h4]
        have hi := HI.out
        refine ⟨C, B, F, _, _, hi.taken (W := (X.alloc (.cells zpage 158)).drew) (nb := w.heap.size) hg hg0 ⟨by omega, by omega, by omega, by omega⟩ (fun f b hf hp he e => ?_) ?_ ?_ ?_ ?_ ?_ (fun b h1 h2 h3 h4 h5 => ?_), .inl hS.1, .inl hS.2.1, .inl hS.2.2.1, .inl hS.2.2.2.1, fun f b hf hp he => ?_⟩
        · have := HP.out.low b (hS.2.2.2.2 f b hf hp he)
          omega
        · refine (Below.heap_alloc _ _ _ (by omega)).trans ?_
          rw [← hX, Below.heap_setCell _ _ _ _ n4, Joins.block_setCell ((Below.heap_setCell _ _ _ _ n1.symm).trans ((Below.heap_setCell _ _ _ _ n5).trans hi.counts)), rowV_set]
          rw [← rowV_upd p.n (fun c : Nat => Value.int .i64 (c : Int)) p.cnt g 1]
          rfl
        · refine (Below.heap_alloc _ _ _ (by omega)).trans ?_
          rw [← hX, Joins.block_setCell ((Below.heap_setCell _ _ _ _ n4.symm).trans ((Below.heap_setCell _ _ _ _ n2.symm).trans ((Below.heap_setCell _ _ _ _ n6).trans hi.ptrs))), rowV_set]
          rw [← rowV_upd p.n (fun o : Option Nat => Value.pointer (o.map fun b => ⟨b, 0, none⟩)) pt g (some w.heap.size)]
          rfl
        · refine (Below.heap_alloc _ _ _ (by omega)).trans ?_
          rw [← hX, Below.heap_setCell _ _ _ _ n6.symm, Below.heap_setCell _ _ _ _ n5.symm, Below.heap_setCell _ _ _ _ n3.symm, Joins.block_setCell hi.free, rowV_set]
          rw [← rowV_upd ((p.n + 63) / 64) (fun c : Nat => Value.int .u64 (c : Int)) wd (g / 64) _]
        · refine (Below.heap_alloc _ _ _ (by omega)).trans ?_
          rw [← hX, Below.heap_setCell _ _ _ _ n2, Below.heap_setCell _ _ _ _ n1, Joins.block_setCell ((Below.heap_setCell _ _ _ _ n3).trans hi.self)]
          rfl
        · have := heap_alloc_new X (.cells zpage 158)
          rw [hXs] at this
          exact this
        · show (X.heap.push _)[b]? = _
          by_cases hb : b < X.heap.size
          · rw [Array.getElem?_push_lt hb, ← Array.getElem?_eq_getElem hb]
            exact far b h1 h2 h3 h4
          · rw [Array.getElem?_eq_none (by simp; omega), Array.getElem?_eq_none (by omega)]
        · by_cases e : f = g
          · subst e
            rw [upd_same] at he
            injection he with he
            exact .inr he.symm
          · rw [upd_ne _ _ e] at he
            simp only [Pool.takeAt, upd_ne _ _ e] at hp
            exact .inl (hS.2.2.2.2 f b hf hp he)
      exact ⟨rfl, _, HP.out.turn hm hin ho (fun b hb => by
        rcases hb with hb | hb
        · exact Nat.lt_of_lt_of_le (HP.out.low b hb) hm.size
        · simp; omega), hm, ho⟩

end Go.Proofs.YtmkgdgfbdmjeeaaGreatDoor
