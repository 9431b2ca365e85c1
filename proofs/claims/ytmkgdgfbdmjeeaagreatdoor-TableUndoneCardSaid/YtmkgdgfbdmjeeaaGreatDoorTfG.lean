/- Frames: New. -/
import Derived.Test.YtmkgdgfbdmjeeaaGreatDoorTfF
import Derived.Deep.DeepCutAuto
namespace Go.Proofs.YtmkgdgfbdmjeeaaGreatDoor
open Go.RowKit
set_option linter.unusedSimpArgs false
set_option linter.unusedVariables false

theorem int_info : (Tryz.prog.info? 3).map (fun i => (i.zero, i.size, i.bytes)) = some (some (.int .i64 0), 1, 8) := by kernel_rfl
theorem u64_info : (Tryz.prog.info? 36).map (fun i => (i.zero, i.size, i.bytes)) = some (some (.int .u64 0), 1, 8) := by kernel_rfl
theorem pfr_info : (Tryz.prog.info? 156).map (fun i => (i.zero, i.size, i.bytes)) = some (some (.pointer none), 1, 8) := by kernel_rfl
theorem make_row (t e : TypeId) (z : Value) (hz1 : z.cells = #[z]) (ht : Tryz.prog.underlying t = some (.slice e)) (hinfo : (Tryz.prog.info? e).map (fun i => (i.zero, i.size, i.bytes)) = some (some z, 1, 8)) (l : Int) (n : Nat) (hl : l = (n : Int)) (hn : n ≤ 1000000) (W : World) :
    (Instr.makeSlice t (.int .i64 l) (.int .i64 l)).run Tryz.prog W = .ok (.slice (some ⟨W.heap.size, 0, none⟩) n n) (W.alloc (.cells (rowV n fun _ => z) e)) := by
  subst hl
  obtain ⟨i0, hi0, hz0, hs, hb⟩ := info_parts hinfo
  have h := run_make (P := Tryz.prog) W t e i0 z ht hi0 hz0 .i64 .i64 (n : Int) (n : Int) (by omega) (by omega) (by rw [hb]; omega) (by omega)
  rw [h, hs, hz1]
  simp [made_rowV]

/-- The four blocks of a new pool, ahead of the loop. -/
structure NewIs (w wx : World) (n a C B F : Nat) (wd : Nat → Nat) : Prop where
  self : wx.heap[a]? = some (.cells #[.slice (some ⟨C, 0, none⟩) n n, .slice (some ⟨B, 0, none⟩) n n, .slice (some ⟨F, 0, none⟩) ((n + 63) / 64) ((n + 63) / 64), .int .i64 (n : Int)] 127 (0, 0))
  counts : wx.heap[C]? = some (.cells (rowV n fun _ => .int .i64 0) 3 (0, 0))
  ptrs : wx.heap[B]? = some (.cells (rowV n fun _ => .pointer none) 156 (0, 0))
  free : wx.heap[F]? = some (.cells (rowV ((n + 63) / 64) fun i => .int .u64 (wd i : Int)) 36 (0, 0))
  apart : a ≠ C ∧ a ≠ B ∧ a ≠ F ∧ C ≠ B ∧ C ≠ F ∧ B ≠ F
  new : w.heap.size ≤ a ∧ w.heap.size ≤ C ∧ w.heap.size ≤ B ∧ w.heap.size ≤ F
  below : Below w.heap.size w wx

theorem hp3 {w : World} {o0 o1 o2 o3 : Obj} : ((((w.alloc o0).alloc o1).alloc o2).alloc o3).drew.heap[w.heap.size + 1 + 1 + 1]? = some o3 := by
  have e : (((w.alloc o0).alloc o1).alloc o2).heap.size = w.heap.size + 1 + 1 + 1 := by simp
  rw [← e]
  exact heap_alloc_new _ _
theorem hp2 {w : World} {o0 o1 o2 o3 : Obj} : ((((w.alloc o0).alloc o1).alloc o2).alloc o3).drew.heap[w.heap.size + 1 + 1]? = some o2 := by
  have e : ((w.alloc o0).alloc o1).heap.size = w.heap.size + 1 + 1 := by simp
  rw [← e]
  exact (Below.heap_alloc _ _ _ (by simp)).trans (heap_alloc_new _ _)
theorem hp1 {w : World} {o0 o1 o2 o3 : Obj} : ((((w.alloc o0).alloc o1).alloc o2).alloc o3).drew.heap[w.heap.size + 1]? = some o1 := by
  have e : (w.alloc o0).heap.size = w.heap.size + 1 := by simp
  rw [← e]
  exact (Below.heap_alloc _ _ _ (by simp)).trans ((Below.heap_alloc _ _ _ (by simp)).trans (heap_alloc_new _ _))
theorem hp0 {w : World} {o0 o1 o2 o3 : Obj} : ((((w.alloc o0).alloc o1).alloc o2).alloc o3).drew.heap[w.heap.size]? = some o0 :=
  (Below.heap_alloc _ _ _ (by simp; try omega)).trans ((Below.heap_alloc _ _ _ (by simp; try omega)).trans ((Below.heap_alloc _ _ _ (by simp; try omega)).trans (heap_alloc_new w o0)))
theorem hpb {w : World} {o0 o1 o2 o3 : Obj} : Below w.heap.size w ((((w.alloc o0).alloc o1).alloc o2).alloc o3).drew :=
  (((((Below.refl _ _).alloc (Nat.le_refl _) _).alloc (by simp) _).alloc (by simp; try omega) _).alloc (by simp; try omega) _).drew
theorem NewIs.bit {w wr : World} {n a C B F k : Nat} {wd : Nat → Nat} (h : NewIs w wr n a C B F wd) (hk : k < n) (hw : ∀ i, i < (n + 63) / 64 → wd i < 18446744073709551616 ∧ ∀ j, j < 64 → (wd i).testBit j = decide (64 * i + j < k)) :
    ∃ wd', NewIs w (wr.setCell ⟨F, k / 64, none⟩ (.int .u64 (bits .or .u64 (wd (k / 64) : Int) (IntKind.u64.wrap (2 ^ (k % 64)))))).drew n a C B F wd' ∧
      ∀ i, i < (n + 63) / 64 → wd' i < 18446744073709551616 ∧ ∀ j, j < 64 → (wd' i).testBit j = decide (64 * i + j < k + 1) := by
  obtain ⟨n1, n2, n3, n4, n5, n6⟩ := h.apart
  have hkw : k / 64 < (n + 63) / 64 := by omega
  have hm : k % 64 < 64 := Nat.mod_lt _ (by decide)
  obtain ⟨hx, hb⟩ := hw _ hkw
  rw [or_bit hx hm]
  refine ⟨upd wd (k / 64) (wd (k / 64) ||| 2 ^ (k % 64)), ⟨?_, ?_, ?_, ?_, h.apart, h.new, ?_⟩, fun i hi => ?_⟩
  · exact (Below.heap_setCell _ _ _ _ n3).trans h.self
  · exact (Below.heap_setCell _ _ _ _ n5).trans h.counts
  · exact (Below.heap_setCell _ _ _ _ n6).trans h.ptrs
  · show (wr.setCell _ _).heap[F]? = _
    rw [Joins.block_setCell h.free, rowV_set, ← rowV_upd ((n + 63) / 64) (fun c : Nat => Value.int .u64 (c : Int)) wd (k / 64) _]
  · exact (h.below.setCell h.new.2.2.2 _).drew
  · by_cases e : i = k / 64
    · subst e
      rw [upd_same]
      refine ⟨or_lt hx hm, fun j hj => ?_⟩
      rw [or_test, hb j hj]
      by_cases e2 : j = k % 64
      · subst e2
        rw [decide_eq_true (rfl : k % 64 = k % 64), Bool.or_true]
        exact (decide_eq_true (by omega)).symm
      · rw [show decide (k % 64 = j) = false from decide_eq_false (fun e' => e2 e'.symm), Bool.or_false]
        exact decide_eq_decide.2 (by omega)
    · rw [upd_ne _ _ e]
      refine ⟨(hw i hi).1, fun j hj => ?_⟩
      rw [(hw i hi).2 j hj]
      exact decide_eq_decide.2 (by omega)
theorem freeTo_all (n : Nat) : freeTo (fun _ => 0) n = n := by
  induction n with
  | zero => rfl
  | succ n ih => unfold freeTo; rw [ih, if_pos rfl]
theorem NewIs.pool {w wr : World} {n a C B F : Nat} {wd : Nat → Nat} (h : NewIs w wr n a C B F wd) (h1 : 1 ≤ n) (h2 : n ≤ 1024) (hw : ∀ i, i < (n + 63) / 64 → wd i < 18446744073709551616 ∧ ∀ j, j < 64 → (wd i).testBit j = decide (64 * i + j < n)) (hdb : DB w) (h0 : 0 < w.heap.size) :
    ∃ S, PoolAt wr S a ⟨n, fun _ => 0, fun _ _ => 0⟩ ∧ ∀ b, S b → w.heap.size ≤ b := by
  have hlt : ∀ b, (∃ o, wr.heap[b]? = some o) → b < wr.heap.size := fun b ⟨o, ho⟩ => (Array.getElem?_eq_some_iff.1 ho).1
  refine ⟨fun b => b = a ∨ b = C ∨ b = B ∨ b = F, ⟨⟨C, B, F, wd, fun _ => none, ⟨?_, h.counts, h.ptrs, h.free, fun i hi => ⟨(hw i hi).1, fun j hj => ?_⟩, fun f hf hc => by simp at hc, fun f g b hf hg hc => by simp at hc, h.apart, fun _ _ => (by show (0 : Nat) < 256; decide), ⟨h1, h2⟩, fun _ => (by show (0 : Nat) < 1000000000000; decide)⟩, .inl rfl, .inr (.inl rfl), .inr (.inr (.inl rfl)), .inr (.inr (.inr rfl)), fun f b hf hc => by simp at hc⟩, fun b hb => ?_, hdb.same (h.below.block 0 h0), fun hb => ?_⟩, fun b hb => ?_⟩
  · rw [h.self]
    show _ = some (Obj.cells #[_, _, _, Value.int .i64 ((freeTo (fun _ => 0) n : Nat) : Int)] _ _)
    rw [freeTo_all]
  · rw [(hw i hi).2 j hj]
    exact decide_eq_decide.2 ⟨fun e => ⟨e, rfl⟩, fun e => e.1⟩
  · rcases hb with rfl | rfl | rfl | rfl
    · exact hlt _ ⟨_, h.self⟩
    · exact hlt _ ⟨_, h.counts⟩
    · exact hlt _ ⟨_, h.ptrs⟩
    · exact hlt _ ⟨_, h.free⟩
  · obtain ⟨m1, m2, m3, m4⟩ := h.new
    omega
  · obtain ⟨m1, m2, m3, m4⟩ := h.new
    omega

set_option maxRecDepth 100000 in
set_option maxHeartbeats 4000000 in
theorem fnew_any (n : Nat) (w : World) (h1 : 1 ≤ n) (h2 : n ≤ 1024) (hdb : DB w) (hw0 : 0 < w.heap.size) :
    Calls Tryz.prog 36 #[.int .i64 (n : Int)] w fun e w' => ∃ a S, e = .returned (.tuple #[.pointer (some ⟨a, 0, none⟩), .int .i64 0]) ∧ PoolAt w' S a ⟨n, fun _ => 0, fun _ _ => 0⟩ ∧ Below w.heap.size w w' ∧ ∀ b, S b → w.heap.size ≤ b := by
  have m1 := make_row 51 3 (.int .i64 0) rfl Tryz.underlying51 int_info (n : Int) n rfl (by omega)
  have m2 := make_row 124 156 (.pointer none) rfl Tryz.underlying124 pfr_info (n : Int) n rfl (by omega)
  have m3 := make_row 125 36 (.int .u64 0) rfl Tryz.underlying125 u64_info (((n : Int) + 63) / 64) ((n + 63) / 64) (by omega) (by omega)
  go_enter Tryz.func36, Tryz.ntmps36
  go_upto_region 3 with (fail)
  go_cut [4] (fun s4 wx => ∃ a C B F, s4 = .pointer (some ⟨a, 0, none⟩) ∧ NewIs w wx n a C B F (fun _ => 0))
  case first =>
    go_region
    all_goals (go_wp2_with fail; go_meet)
    all_goals first
      | exact ⟨_, w.heap.size, w.heap.size + 1, w.heap.size + 1 + 1, rfl, ⟨hp3, hp0, hp1, hp2, (by omega), (by omega), hpb⟩⟩
      | exact ⟨_, w.heap.size, w.heap.size + 1 + 1, w.heap.size + 1, rfl, ⟨hp3, hp0, hp2, hp1, (by omega), (by omega), hpb⟩⟩
      | exact ⟨_, w.heap.size + 1, w.heap.size, w.heap.size + 1 + 1, rfl, ⟨hp3, hp1, hp0, hp2, (by omega), (by omega), hpb⟩⟩
      | exact ⟨_, w.heap.size + 1, w.heap.size + 1 + 1, w.heap.size, rfl, ⟨hp3, hp1, hp2, hp0, (by omega), (by omega), hpb⟩⟩
      | exact ⟨_, w.heap.size + 1 + 1, w.heap.size, w.heap.size + 1, rfl, ⟨hp3, hp2, hp0, hp1, (by omega), (by omega), hpb⟩⟩
      | exact ⟨_, w.heap.size + 1 + 1, w.heap.size + 1, w.heap.size, rfl, ⟨hp3, hp2, hp1, hp0, (by omega), (by omega), hpb⟩⟩
  case rest =>
    obtain ⟨a, C, B, F, rfl, hN⟩ := hcut
    have c2 : wc.cell? ⟨a, 2, none⟩ = some (.slice (some ⟨F, 0, none⟩) ((n + 63) / 64) ((n + 63) / 64)) := one_block hN.self 2
    have HN := Lib.hid hN
    clear hN m1 m2 m3
    go_wp2
    go_loopw [5, 24] (fun v5 i wr => ∃ k : Nat, k ≤ n ∧ i = .int .i64 k ∧ ∃ wd, NewIs w wr n a C B F wd ∧ ∀ i, i < (n + 63) / 64 → wd i < 18446744073709551616 ∧ ∀ j, j < 64 → (wd i).testBit j = decide (64 * i + j < k)) (fun _ i _ => n - (intOf i).toNat)
    case atStart => exact ⟨0, Nat.zero_le _, rfl, _, HN.out, fun i hi => ⟨by decide, fun j hj => by rw [Nat.zero_testBit]; exact (decide_eq_false (by omega)).symm⟩⟩
    case round =>
      obtain ⟨k, hk, rfl, wd, hN, hwd⟩ := hrel
      have c2 : wr.cell? ⟨a, 2, none⟩ = some (.slice (some ⟨F, 0, none⟩) ((n + 63) / 64) ((n + 63) / 64)) := one_block hN.self 2
      obtain ⟨n1, n2, n3, n4, n5, n6⟩ := hN.apart
      have HN := Lib.hid hN
      have HW := Lib.hid hwd
      by_cases hlt : k < n
      · have hkw : k / 64 < (n + 63) / 64 := by omega
        have cF := row_cell hN.free hkw
        have fF := one_free hN.free (k / 64)
        clear hN hwd
        have hfin := HN.out.bit hlt HW.out
        have HFIN := Lib.hid hfin
        clear hfin
        go_wp2
        go_region
        go_wp2
        go_roundw
        case rel => exact ⟨k + 1, by omega, by go_num, HFIN.out⟩
        case measure => simp [intOf]; omega
      · clear hN hwd
        go_wp2
        go_ret2
        obtain rfl : k = n := by omega
        obtain ⟨S, hS1, hS2⟩ := HN.out.pool h1 h2 HW.out hdb hw0
        exact ⟨a, S, rfl, hS1, HN.out.below, hS2⟩

end Go.Proofs.YtmkgdgfbdmjeeaaGreatDoor
