/- Frames: the small functions of a pool. -/
import Derived.Test.YtmkgdgfbdmjeeaaGreatDoorTfA
import Derived.Test.YtmkgdgfbdmjeeaaGreatDoorTfW
import Derived.RegionTactic
import Derived.BigRegion
namespace Go.Proofs.YtmkgdgfbdmjeeaaGreatDoor
open Go.RowKit
set_option linter.unusedSimpArgs false
set_option linter.unusedVariables false

def takenB (p : Pool) (f : Int) : Bool := decide (0 ≤ f ∧ f < p.n ∧ 0 < p.cnt f.toNat)
theorem takenB_yes {p : Pool} {f : Int} (h : takenB p f = true) : ∃ g : Nat, f = g ∧ g < p.n ∧ 0 < p.cnt g := by
  unfold takenB at h
  obtain ⟨h1, h2, h3⟩ := of_decide_eq_true h
  exact ⟨f.toNat, by omega, by omega, h3⟩
theorem takenB_nat {p : Pool} {g : Nat} : takenB p (g : Int) = decide (g < p.n ∧ 0 < p.cnt g) := by
  unfold takenB
  rw [Bool.eq_iff_iff]
  simp

theorem ret_bool {a b : Bool} (h : a = b) : Ending.returned (.bool a) = .returned (.bool b) := by rw [h]
theorem one_block {w : World} {b : Nat} {cs : Array Value} {T : TypeId} {fr : Nat × Nat} (h : w.heap[b]? = some (.cells cs T fr)) (i : Nat) : w.cell? ⟨b, i, none⟩ = cs[i]? := by simp [World.cell?, h]
theorem one_free {w : World} {b : Nat} {cs : Array Value} {T : TypeId} (h : w.heap[b]? = some (.cells cs T (0, 0))) (i : Nat) : w.frozen? ⟨b, i, none⟩ = false := by simp [World.frozen?, h]
theorem row_cell {w : World} {b n : Nat} {g : Nat → Value} {T : TypeId} {fr : Nat × Nat} (h : w.heap[b]? = some (.cells (rowV n g) T fr)) {i : Nat} (hi : i < n) : w.cell? ⟨b, i, none⟩ = some (g i) := by
  rw [one_block h, rowV_at hi]

set_option maxHeartbeats 400000 in
theorem taken_any (a : Nat) (f : Int) (w : World) (S : Nat → Prop) (p : Pool) (h : PoolAt w S a p) :
    Calls Tryz.prog 85 #[.pointer (some ⟨a, 0, none⟩), .int .i64 f] w fun e w' => e = .returned (.bool (takenB p f)) ∧ w = w' := by
  obtain ⟨⟨C, B, F, wd, pt, hi, _⟩, _, _, _⟩ := h
  have h0 : w.cell? ⟨a, 0, none⟩ = some (.slice (some ⟨C, 0, none⟩) p.n p.n) := one_block hi.self 0
  have hC := hi.counts
  have hn := hi.few.2
  clear hi
  by_cases h1 : 0 ≤ f
  · obtain ⟨g, rfl⟩ := Int.eq_ofNat_of_zero_le h1
    by_cases h2 : g < p.n
    · have hc := row_cell hC h2
      clear hC
      go_enter Tryz.func85, Tryz.ntmps85
      go_wp2
      go_ret
      exact ⟨ret_bool (by rw [takenB_nat]; simp [h2]), rfl⟩
    · clear hC
      go_enter Tryz.func85, Tryz.ntmps85
      go_wp2
      go_ret
      exact ⟨ret_bool (by rw [takenB_nat]; simp [h2]), rfl⟩
  · clear hC
    go_enter Tryz.func85, Tryz.ntmps85
    go_wp2
    go_ret
    exact ⟨ret_bool ((decide_eq_false (fun e => by omega)).symm), rfl⟩

/-- A count turns from one above 0 to one above 0. -/
theorem PoolIs.setCnt {w : World} {a C B F : Nat} {wd : Nat → Nat} {pt : Nat → Option Nat} {p : Pool} (h : PoolIs w a C B F wd pt p) {g x : Nat} (hg : g < p.n) (h0 : 0 < p.cnt g) (hx : 0 < x) (hx2 : x < 1000000000000) :
    PoolIs (w.setCell ⟨C, g, none⟩ (.int .i64 (x : Int))) a C B F wd pt ⟨p.n, upd p.cnt g x, p.dat⟩ := by
  obtain ⟨n1, n2, n3, n4, n5, n6⟩ := h.apart
  have hz : ∀ f, upd p.cnt g x f = 0 ↔ p.cnt f = 0 := fun f => by
    by_cases e : f = g
    · subst e; rw [upd_same]; omega
    · rw [upd_ne _ _ e]
  have hl : Pool.left ⟨p.n, upd p.cnt g x, p.dat⟩ = p.left := freeTo_congr fun i _ => hz i
  refine ⟨?_, ?_, ?_, ?_, fun i hi => ⟨(h.wds i hi).1, fun j hj => ?_⟩, fun f hf hc => ?_, fun f k b hf hk hc hd => ?_, h.apart, h.small, h.few, fun f => ?_⟩
  · rw [hl]
    exact (Below.heap_setCell _ _ _ _ n1).trans h.self
  · rw [Joins.block_setCell h.counts, rowV_set]
    congr 2
    refine rowV_congr fun i _ => ?_
    by_cases e : i = g
    · subst e; rw [upd_same]; simp only [upd_same]
    · rw [upd_ne _ _ e]; simp only [upd_ne _ _ e]
  · exact (Below.heap_setCell _ _ _ _ n4.symm).trans h.ptrs
  · exact (Below.heap_setCell _ _ _ _ n5.symm).trans h.free
  · rw [(h.wds i hi).2 j hj]
    simp only [hz]
  · obtain ⟨b, e, h1, h2⟩ := h.bytes f hf (by have := hz f; simp only at hc; omega)
    exact ⟨b, e, (Below.heap_setCell _ _ _ _ h2.2.1).trans h1, h2⟩
  · exact h.sole f k b hf hk (by have := hz f; simp only at hc; omega) (by have := hz k; simp only at hd; omega)
  · by_cases e : f = g
    · subst e; simp only [upd_same]; exact hx2
    · simp only [upd_ne _ _ e]; exact h.cap f

theorem Mod.drew {S : Nat → Prop} {w w' : World} (h : Mod S w w') : Mod S w w'.drew := ⟨h.os, h.tape, h.output, h.size, h.block⟩
theorem mod_set {S : Nat → Prop} {w : World} {b : Nat} (hb : S b) (o : Nat) (v : Value) : Mod S w (w.setCell ⟨b, o, none⟩ v) :=
  ⟨rfl, rfl, rfl, by simp [World.setCell], fun k _ hk => Below.heap_setCell _ _ _ _ (fun e => hk (by rw [e]; exact hb))⟩

set_option maxHeartbeats 400000 in
theorem up_yes (a g : Nat) (w : World) (S : Nat → Prop) (p : Pool) (h : PoolAt w S a p) (ht : takenB p (g : Int) = true) (hcap : p.cnt g + 1 < 1000000000000) :
    Calls Tryz.prog 70 #[.pointer (some ⟨a, 0, none⟩), .int .i64 g] w fun e w' => e = .returned (.int .i64 0) ∧ PoolAt w' S a (p.up g) ∧ Mod S w w' := by
  have hT := fun W => taken_any a (g : Int) W S p
  rw [ht] at hT
  have HT := Lib.hid hT
  have HP := Lib.hid h
  obtain ⟨⟨C, B, F, wd, pt, hi, hS⟩, hlow, _, _⟩ := h
  have h0 : w.cell? ⟨a, 0, none⟩ = some (.slice (some ⟨C, 0, none⟩) p.n p.n) := one_block hi.self 0
  have hg : g < p.n ∧ 0 < p.cnt g := by rw [takenB_nat] at ht; exact of_decide_eq_true ht
  obtain ⟨hg, hpos⟩ := hg
  have hc := row_cell hi.counts hg
  have hf := one_free hi.counts g
  have hn := hi.few.2
  have hcap' : p.cnt g < 1000000000000 := by omega
  have HI := Lib.hid hi
  clear hi hT ht hlow
  go_enter Tryz.func70, Tryz.ntmps70
  go_wp2_with (go_at_call 85; refine (HT.out _ HP.out).mono ?_; rintro e w1 ⟨rfl, rfl⟩)
  go_ret
  refine ⟨rfl, HP.out.stay (mod_set hS.2.1 _ _) ⟨C, B, F, wd, pt, HI.out.setCnt hg hpos (by omega) (by omega), hS.1, hS.2.1, hS.2.2.1, hS.2.2.2.1, fun f b hf hc he => hS.2.2.2.2 f b hf ?_ he⟩, mod_set hS.2.1 _ _⟩
  by_cases e : f = g
  · subst e; exact hpos
  · simp only [Pool.up, upd_ne _ _ e] at hc; exact hc

set_option maxHeartbeats 400000 in
theorem up_no (a : Nat) (f : Int) (w : World) (S : Nat → Prop) (p : Pool) (h : PoolAt w S a p) (ht : takenB p f = false) :
    Calls Tryz.prog 70 #[.pointer (some ⟨a, 0, none⟩), .int .i64 f] w fun e w' => e = .returned (.int .i64 1) ∧ w = w' := by
  have hT := fun W => taken_any a f W S p
  rw [ht] at hT
  have HT := Lib.hid hT
  clear hT ht
  go_enter Tryz.func70, Tryz.ntmps70
  go_wp2_with (go_at_call 85; refine (HT.out _ h).mono ?_; rintro e w1 ⟨rfl, rfl⟩)
  go_ret
  exact ⟨rfl, rfl⟩

theorem up_nil (f : Int) (w : World) : Calls Tryz.prog 70 #[.pointer none, .int .i64 f] w fun e w' => e = .returned (.int .i64 2) ∧ w = w' := by
  go_enter Tryz.func70, Tryz.ntmps70
  go_wp2
  go_ret
  exact ⟨rfl, rfl⟩

set_option maxHeartbeats 400000 in
theorem down_more (a g : Nat) (w : World) (S : Nat → Prop) (p : Pool) (h : PoolAt w S a p) (hg : g < p.n) (h2 : 2 ≤ p.cnt g) :
    Calls Tryz.prog 49 #[.pointer (some ⟨a, 0, none⟩), .int .i64 g] w fun e w' => e = .returned (.int .i64 0) ∧ PoolAt w' S a (p.down g) ∧ Mod S w w' := by
  have ht : takenB p (g : Int) = true := by rw [takenB_nat]; exact decide_eq_true ⟨hg, by omega⟩
  have hT := fun W => taken_any a (g : Int) W S p
  rw [ht] at hT
  have HT := Lib.hid hT
  have HP := Lib.hid h
  obtain ⟨⟨C, B, F, wd, pt, hi, hS⟩, hlow, _, _⟩ := h
  have h0 : w.cell? ⟨a, 0, none⟩ = some (.slice (some ⟨C, 0, none⟩) p.n p.n) := one_block hi.self 0
  have hc := row_cell hi.counts hg
  have hf := one_free hi.counts g
  have hn := hi.few.2
  have hcap := hi.cap g
  have haC := hi.apart.1
  have hd : ((p.cnt g : Int) - 1 == 0) = false := by rw [beq_eq_false_iff_ne]; omega
  have HI := Lib.hid hi
  clear hi hT ht hlow
  go_enter Tryz.func49, Tryz.ntmps49
  go_wp2_with (go_at_call 85; refine (HT.out _ HP.out).mono ?_; rintro e w1 ⟨rfl, rfl⟩)
  go_ret
  rw [show ((p.cnt g : Int) - 1) = ((p.cnt g - 1 : Nat) : Int) from by omega]
  refine ⟨rfl, HP.out.stay (mod_set hS.2.1 _ _) ⟨C, B, F, wd, pt, HI.out.setCnt hg (by omega) (by omega) (by omega), hS.1, hS.2.1, hS.2.2.1, hS.2.2.2.1, fun f b hf hc he => hS.2.2.2.2 f b hf ?_ he⟩, mod_set hS.2.1 _ _⟩
  by_cases e : f = g
  · subst e; omega
  · simp only [Pool.down, upd_ne _ _ e] at hc; exact hc

/-- The count of a frame and its bit turn together. -/
theorem PoolIs.turn {w W : World} {a C B F : Nat} {wd : Nat → Nat} {pt : Nat → Option Nat} {p : Pool} (h : PoolIs w a C B F wd pt p) {g x y L : Nat} (hg : g < p.n) (hx : x < 1000000000000)
    (hy : y < 18446744073709551616) (hyb : ∀ j, j < 64 → y.testBit j = if j = g % 64 then decide (x = 0) else (wd (g / 64)).testBit j) (hL : L = freeTo (upd p.cnt g x) p.n)
    (hW : W.heap = (((w.setCell ⟨C, g, none⟩ (.int .i64 (x : Int))).setCell ⟨F, g / 64, none⟩ (.int .u64 (y : Int))).setCell ⟨a, 3, none⟩ (.int .i64 (L : Int))).heap) (hb : p.cnt g = 0 → x = 0) :
    PoolIs W a C B F (upd wd (g / 64) y) pt ⟨p.n, upd p.cnt g x, p.dat⟩ := by
  obtain ⟨n1, n2, n3, n4, n5, n6⟩ := h.apart
  have far : ∀ b, b ≠ C → b ≠ F → b ≠ a → W.heap[b]? = w.heap[b]? := fun b h1 h2 h3 => by
    rw [hW]
    exact (Below.heap_setCell _ _ _ _ h3).trans ((Below.heap_setCell _ _ _ _ h2).trans (Below.heap_setCell _ _ _ _ h1))
  refine ⟨?_, ?_, ?_, ?_, fun i hi => ?_, fun f hf hc => ?_, fun f k b hf hk hc hd => ?_, h.apart, h.small, h.few, fun f => ?_⟩
  · rw [hW, Joins.block_setCell ((Below.heap_setCell _ _ _ _ n3).trans ((Below.heap_setCell _ _ _ _ n1).trans h.self))]
    show _ = some (Obj.cells #[_, _, _, Value.int .i64 ((freeTo (upd p.cnt g x) p.n : Nat) : Int)] _ _)
    rw [← hL]
    rfl
  · rw [hW, (Below.heap_setCell _ _ _ _ n1.symm), (Below.heap_setCell _ _ _ _ n5), Joins.block_setCell h.counts, rowV_set]
    congr 2
    refine rowV_congr fun i _ => ?_
    by_cases e : i = g
    · subst e; rw [upd_same]; simp only [upd_same]
    · rw [upd_ne _ _ e]; simp only [upd_ne _ _ e]
  · exact (far B n4.symm n6 n2.symm).trans h.ptrs
  · rw [hW, (Below.heap_setCell _ _ _ _ n3.symm), Joins.block_setCell ((Below.heap_setCell _ _ _ _ n5.symm).trans h.free), rowV_set]
    congr 2
    refine rowV_congr fun i _ => ?_
    by_cases e : i = g / 64
    · subst e; rw [upd_same]; simp only [upd_same]
    · rw [upd_ne _ _ e]; simp only [upd_ne _ _ e]
  · simp only at hi
    by_cases e : i = g / 64
    · subst e
      rw [upd_same]
      refine ⟨hy, fun j hj => ?_⟩
      rw [hyb j hj]
      by_cases e2 : j = g % 64
      · subst e2
        rw [if_pos rfl, show 64 * (g / 64) + g % 64 = g from by omega]
        simp only [upd_same]
        simp [hg]
      · rw [if_neg e2, (h.wds _ hi).2 j hj]
        simp only [upd_ne p.cnt x (show 64 * (g / 64) + j ≠ g from by omega)]
    · rw [upd_ne _ _ e]
      refine ⟨(h.wds i hi).1, fun j hj => ?_⟩
      rw [(h.wds i hi).2 j hj]
      simp only [upd_ne p.cnt x (show 64 * i + j ≠ g from by omega)]
  · simp only at hf hc
    have hc' : 0 < p.cnt f := by
      by_cases e : f = g
      · subst e; rw [upd_same] at hc; rcases Nat.eq_zero_or_pos (p.cnt f) with h0 | h0
        · have := hb h0; omega
        · exact h0
      · rw [upd_ne _ _ e] at hc; exact hc
    obtain ⟨b, e, h1, h2⟩ := h.bytes f hf hc'
    exact ⟨b, e, (far b h2.2.1 h2.2.2.2 h2.1).trans h1, h2⟩
  · have key : ∀ f, 0 < upd p.cnt g x f → 0 < p.cnt f := fun f hc => by
      by_cases e : f = g
      · subst e; rw [upd_same] at hc; rcases Nat.eq_zero_or_pos (p.cnt f) with h0 | h0
        · have := hb h0; omega
        · exact h0
      · rw [upd_ne _ _ e] at hc; exact hc
    exact h.sole f k b hf hk (key f hc) (key k hd)
  · by_cases e : f = g
    · subst e; simp only [upd_same]; exact hx
    · simp only [upd_ne _ _ e]; exact h.cap f
theorem PoolIs.last {w W : World} {a C B F : Nat} {wd : Nat → Nat} {pt : Nat → Option Nat} {p : Pool} (h : PoolIs w a C B F wd pt p) {g : Nat} (hg : g < p.n) (h1 : p.cnt g = 1)
    (hW : W.heap = (((w.setCell ⟨C, g, none⟩ (.int .i64 0)).setCell ⟨F, g / 64, none⟩ (.int .u64 (bits .or .u64 (wd (g / 64) : Int) (IntKind.u64.wrap (2 ^ (g % 64)))))).setCell ⟨a, 3, none⟩ (.int .i64 ((p.left : Int) + 1))).heap) :
    PoolIs W a C B F (upd wd (g / 64) (wd (g / 64) ||| 2 ^ (g % 64))) pt (p.down g) := by
  have hgw : g / 64 < (p.n + 63) / 64 := by omega
  have hw := h.wds _ hgw
  have hm : g % 64 < 64 := Nat.mod_lt _ (by decide)
  rw [or_bit hw.1 hm] at hW
  have hL := freeTo_upd (c := p.cnt) (x := 0) hg
  rw [if_neg (by omega), if_pos rfl] at hL
  have := h.turn (x := 0) (y := wd (g / 64) ||| 2 ^ (g % 64)) (L := p.left + 1) (W := W) hg (by omega) (or_lt hw.1 hm) (fun j hj => ?_) (by unfold Pool.left; omega) (by rw [hW]; rfl) (fun e => rfl)
  · rw [show (⟨p.n, upd p.cnt g 0, p.dat⟩ : Pool) = p.down g from by unfold Pool.down; rw [h1]] at this
    exact this
  · rw [or_test]
    by_cases e : j = g % 64
    · subst e; simp
    · rw [if_neg e, decide_eq_false (fun e' => e e'.symm), Bool.or_false]

set_option maxHeartbeats 400000 in
theorem down_last (a g : Nat) (w : World) (S : Nat → Prop) (p : Pool) (h : PoolAt w S a p) (hg : g < p.n) (h1 : p.cnt g = 1) :
    Calls Tryz.prog 49 #[.pointer (some ⟨a, 0, none⟩), .int .i64 g] w fun e w' => e = .returned (.int .i64 0) ∧ PoolAt w' S a (p.down g) ∧ Mod S w w' := by
  have ht : takenB p (g : Int) = true := by rw [takenB_nat]; exact decide_eq_true ⟨hg, by omega⟩
  have hT := fun W => taken_any a (g : Int) W S p
  rw [ht] at hT
  have HT := Lib.hid hT
  have HP := Lib.hid h
  obtain ⟨⟨C, B, F, wd, pt, hi, hS⟩, hlow, _, _⟩ := h
  have h0 : w.cell? ⟨a, 0, none⟩ = some (.slice (some ⟨C, 0, none⟩) p.n p.n) := one_block hi.self 0
  have h2 : w.cell? ⟨a, 2, none⟩ = some (.slice (some ⟨F, 0, none⟩) ((p.n + 63) / 64) ((p.n + 63) / 64)) := one_block hi.self 2
  have h3 : w.cell? ⟨a, 3, none⟩ = some (.int .i64 (p.left : Int)) := one_block hi.self 3
  have f3 := one_free hi.self 3
  have hc := row_cell hi.counts hg
  rw [h1] at hc
  have hf := one_free hi.counts g
  have hn := hi.few.2
  have hgw : g / 64 < (p.n + 63) / 64 := by omega
  have hw := row_cell hi.free hgw
  have fw := one_free hi.free (g / 64)
  obtain ⟨n1, n2, n3, n4, n5, n6⟩ := hi.apart
  have hl : p.left ≤ p.n := freeTo_le _ _
  have H1 := Lib.hid h1
  have HI := Lib.hid hi
  clear hi hT ht hlow h1
  go_enter Tryz.func49, Tryz.ntmps49
  go_wp2_with (go_at_call 85; refine (HT.out _ HP.out).mono ?_; rintro e w1 ⟨rfl, rfl⟩)
  go_region
  go_wp2
  go_ret
  have hm : Mod S w (((w.setCell ⟨C, g, none⟩ (.int .i64 0)).setCell ⟨F, g / 64, none⟩ (.int .u64 (bits .or .u64 (wd (g / 64) : Int) (IntKind.u64.wrap (2 ^ (g % 64)))))).setCell ⟨a, 3, none⟩ (.int .i64 ((p.left : Int) + 1))).drew :=
    (((mod_set hS.2.1 _ _).trans (Out.refl _ _) (mod_set hS.2.2.2.1 _ _)).trans (Out.refl _ _) (mod_set hS.1 _ _)).drew
  refine ⟨rfl, HP.out.stay hm ⟨C, B, F, _, pt, HI.out.last hg H1.out rfl, hS.1, hS.2.1, hS.2.2.1, hS.2.2.2.1, fun f b hf hc he => hS.2.2.2.2 f b hf ?_ he⟩, hm⟩
  by_cases e : f = g
  · subst e; rw [H1.out]; decide
  · simp only [Pool.down, upd_ne _ _ e] at hc; exact hc

end Go.Proofs.YtmkgdgfbdmjeeaaGreatDoor
