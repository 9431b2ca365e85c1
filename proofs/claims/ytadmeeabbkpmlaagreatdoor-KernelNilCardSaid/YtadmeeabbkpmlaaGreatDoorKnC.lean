/- No kernel: the law's round; the same results are the same. -/
import Derived.Test.YtadmeeabbkpmlaaGreatDoorKnB
import Derived.Deep.QuietTactic
import Derived.BigQuiet
import Derived.Lib.QuietBelow
import Derived.Lib.SmallJoins
namespace Go.Proofs.YtadmeeabbkpmlaaGreatDoor
open Go.RowKit Go.Sort
set_option linter.unusedSimpArgs false
set_option linter.unusedVariables false

theorem one_free {w : World} {b : Nat} {cs : Array Value} {T : TypeId} (h : w.heap[b]? = some (.cells cs T (0, 0))) (i : Nat) : w.frozen? ⟨b, i, none⟩ = false := by simp [World.frozen?, h]
theorem one_cell {w : World} {b : Nat} {cs : Array Value} {T : TypeId} {fr : Nat × Nat} (h : w.heap[b]? = some (.cells cs T fr)) (i : Nat) : w.cell? ⟨b, i, none⟩ = cs[i]? := by simp [World.cell?, h]
set_option maxRecDepth 100000 in
set_option maxHeartbeats 2000000 in
theorem same_res (w : World) : Calls Tryz.prog 7 #[.agg #[.int .i64 2, .int .u64 0, .slice none 0 0], .agg #[.int .i64 2, .int .u64 0, .slice none 0 0]] w fun e w' => e = .returned (.bool true) ∧ Below w.heap.size w w' := by
  go_enter Tryz.func7, Tryz.ntmps7
  go_wp2_with fail
  go_loopw [5] (fun i wr => i = .int .i64 0 ∧ wr.cell? ⟨w.heap.size, 2, none⟩ = some (.slice none 0 0) ∧ Below w.heap.size w wr) (fun _ _ => 0)
  case atStart => exact ⟨rfl, one_cell ((Below.heap_alloc _ _ _ (by simp)).trans (heap_alloc_new w _)) 2, ((Below.refl _ _).alloc (Nat.le_refl _) _).alloc (by simp) _⟩
  case round =>
    obtain ⟨rfl, c2, hbe⟩ := hrel
    have HBE := Lib.hid hbe
    clear hbe
    go_wp2_with fail
    go_ret
    exact ⟨rfl, HBE.out⟩

theorem do_keep (pid : Int) (x : Ask) (b o : Nat) (w : World) (h : StepAt w b o pid x) :
    Calls Tryz.prog 6 #[.pointer none, .int .i64 pid, x.v] w fun e w' => e = .returned (.agg #[.int .i64 2, .int .u64 0, .slice none 0 0]) ∧ Hid (Below w.heap.size w w') ∧ w'.cell? ⟨b, o, none⟩ = some (.int .i64 pid) ∧ w'.cell? ⟨b, o + 1, none⟩ = some (.int .u8 x.kind) ∧ w'.cell? ⟨b, o + 2, none⟩ = some (.int .u64 x.a) ∧ w'.cell? ⟨b, o + 3, none⟩ = some (.int .u64 x.b) ∧ w'.cell? ⟨b, o + 4, none⟩ = some (.int .u64 x.c) ∧ w'.cell? ⟨b, o + 5, none⟩ = some (.int .u64 x.d) ∧ w'.cell? ⟨b, o + 6, none⟩ = some (.int .u64 x.e) ∧ w'.cell? ⟨b, o + 7, none⟩ = some (.string x.path) ∧ w'.cell? ⟨b, o + 8, none⟩ = some (.slice x.A x.al x.ac) ∧ w'.cell? ⟨b, o + 9, none⟩ = some (.slice x.E x.el x.ec) ∧ w'.cell? ⟨b, o + 10, none⟩ = some (.slice x.B x.bl x.bc) := by
  have hb : b < w.heap.size := World.block_lt_of_cell? _ _ h.c0
  refine (do_nil pid x w).mono fun e w' ⟨he, hbw⟩ => ?_
  have hz := hbw.size
  refine ⟨he, Lib.hid hbw, (hbw.cell (p := ⟨b, _, none⟩) hb).trans h.c0, (hbw.cell (p := ⟨b, _, none⟩) hb).trans h.c1, (hbw.cell (p := ⟨b, _, none⟩) hb).trans h.c2, (hbw.cell (p := ⟨b, _, none⟩) hb).trans h.c3, (hbw.cell (p := ⟨b, _, none⟩) hb).trans h.c4, (hbw.cell (p := ⟨b, _, none⟩) hb).trans h.c5, (hbw.cell (p := ⟨b, _, none⟩) hb).trans h.c6, (hbw.cell (p := ⟨b, _, none⟩) hb).trans h.c7, (hbw.cell (p := ⟨b, _, none⟩) hb).trans h.c8, (hbw.cell (p := ⟨b, _, none⟩) hb).trans h.c9, (hbw.cell (p := ⟨b, _, none⟩) hb).trans h.c10⟩
theorem peek_nil (pid a z : Int) (w : World) : Calls Tryz.prog 8 #[.pointer none, .int .i64 pid, .int .u64 a, .int .i64 z] w fun e w' => e = .returned (.tuple #[.slice none 0 0, .int .i64 2]) ∧ Below w.heap.size w w' := by
  go_enter Tryz.func8, Tryz.ntmps8
  go_wp2_with fail
  go_ret2
  exact ⟨rfl, Below.refl _ _⟩
theorem procs_nil (w : World) : Calls Tryz.prog 9 #[.pointer none] w fun e w' => e = .returned (.slice none 0 0) ∧ w = w' := by
  go_enter Tryz.func9, Tryz.ntmps9
  go_wp2_with fail
  go_ret
  exact ⟨rfl, rfl⟩
theorem cache_nil (w : World) : Calls Tryz.prog 10 #[.pointer none] w fun e w' => e = .returned (.pointer none) ∧ w = w' := by
  go_enter Tryz.func10, Tryz.ntmps10
  go_wp2_with fail
  go_ret
  exact ⟨rfl, rfl⟩
theorem space_nil (pid : Int) (w : World) : Calls Tryz.prog 11 #[.pointer none, .int .i64 pid] w fun e w' => e = .returned (.pointer none) ∧ w = w' := by
  go_enter Tryz.func11, Tryz.ntmps11
  go_wp2_with fail
  go_ret
  exact ⟨rfl, rfl⟩
/-- It answers yes, and keeps what lies there. -/
def YesAt (w : World) (f : FuncId) : Prop := ∀ W, Below w.heap.size w W → Calls Tryz.prog f #[] W fun e w' => e = .returned (.bool true) ∧ Below W.heap.size W w'
set_option maxRecDepth 100000 in
set_option maxHeartbeats 4000000 in
theorem kernelNil_any (pid : Int) (P : Option Addr) (n cap : Nat) (addr z : Int) (w : World) (hl : n ≤ 200 → StepsAt w P n) (hn : n ≤ 9223372036854775807) (hw : YesAt w 4) :
    Calls Tryz.prog 3 #[.int .i64 pid, .slice P n cap, .int .u64 addr, .int .i64 z] w fun e w' => e = .returned (.bool true) ∧ Below w.heap.size w w' := by
  have HW := Lib.hid hw
  clear hw
  by_cases h2 : n ≤ 200
  · have HL := Lib.hid (hl h2)
    have hng : ¬ (200 : Int) < (n : Int) := by omega
    clear hl
    go_enter Tryz.func3, Tryz.ntmps3
    go_wp2_with (first
      | (go_at_call 5; refine (run_nil P n cap _ HL.out h2).mono ?_; rintro e w1 ⟨R, rc, rfl, hO, hb⟩; have HO := Lib.hid hO; have HB := Lib.hid hb; clear hO hb)
      | fail)
    go_loopw [11] (fun i wr => ∃ k : Nat, k ≤ n ∧ i = .int .i64 (k : Int) ∧ Below w1.heap.size w1 wr) (fun i _ => n - (intOf i).toNat)
    case atStart => exact ⟨0, by omega, rfl, Below.refl _ _⟩
    case round =>
      obtain ⟨k, hk, rfl, hbe⟩ := hrel
      have HBE := Lib.hid hbe
      clear hbe
      by_cases hlt : k < n
      · obtain ⟨b, off, p1, x, rfl, hbl, ⟨c0, c1, c2, c3, c4, c5, c6, c7, c8, c9, c10⟩⟩ := (HL.out.below (HB.out.trans (HBE.out.mono HB.out.size))) k hlt
        have hkn : (k : Int) < (n : Int) := by omega
        have HS1 : Hid (StepAt wr.drew b (off + k * 11) p1 x) := Lib.hid ⟨c0, c1, c2, c3, c4, c5, c6, c7, c8, c9, c10⟩
        have ha : ∀ i, ((wr.alloc (.cells #[.int .i64 0, .int .u64 0, .slice none 0 0] 31)).drew).cell? ⟨b, i, none⟩ = wr.cell? ⟨b, i, none⟩ := fun i => ((Below.refl wr.heap.size wr).alloc (Nat.le_refl _) (.cells #[.int .i64 0, .int .u64 0, .slice none 0 0] 31)).cell (p := ⟨b, i, none⟩) hbl
        have HS2 : Hid (StepAt (wr.alloc (.cells #[.int .i64 0, .int .u64 0, .slice none 0 0] 31)).drew b (off + k * 11) p1 x) := Lib.hid ⟨(ha _).trans c0, (ha _).trans c1, (ha _).trans c2, (ha _).trans c3, (ha _).trans c4, (ha _).trans c5, (ha _).trans c6, (ha _).trans c7, (ha _).trans c8, (ha _).trans c9, (ha _).trans c10⟩
        clear ha
        have hne1 : wr.heap.size ≠ b := by omega
        have hne2 : b ≠ wr.heap.size := by omega
        go_upto_region 10 with (fail)
        go_region_held3 (fun w' => w'.cell? ⟨b, off + k * 11, none⟩ = some (.int .i64 p1) ∧ w'.cell? ⟨b, off + k * 11 + 1, none⟩ = some (.int .u8 x.kind) ∧ w'.cell? ⟨b, off + k * 11 + 2, none⟩ = some (.int .u64 x.a) ∧ w'.cell? ⟨b, off + k * 11 + 3, none⟩ = some (.int .u64 x.b) ∧ w'.cell? ⟨b, off + k * 11 + 4, none⟩ = some (.int .u64 x.c) ∧ w'.cell? ⟨b, off + k * 11 + 5, none⟩ = some (.int .u64 x.d) ∧ w'.cell? ⟨b, off + k * 11 + 6, none⟩ = some (.int .u64 x.e) ∧ w'.cell? ⟨b, off + k * 11 + 7, none⟩ = some (.string x.path) ∧ w'.cell? ⟨b, off + k * 11 + 8, none⟩ = some (.slice x.A x.al x.ac) ∧ w'.cell? ⟨b, off + k * 11 + 9, none⟩ = some (.slice x.E x.el x.ec) ∧ w'.cell? ⟨b, off + k * 11 + 10, none⟩ = some (.slice x.B x.bl x.bc)) (go_keep) (first
          | (go_at_call 6; refine (do_keep p1 x b (off + k * 11) _ HS1.out).mono ?_; rintro e w2 ⟨rfl, hb2, q0, q1, q2, q3, q4, q5, q6, q7, q8, q9, q10⟩)
          | (go_at_call 6; refine (do_keep p1 x b (off + k * 11) _ HS2.out).mono ?_; rintro e w2 ⟨rfl, hb2, q0, q1, q2, q3, q4, q5, q6, q7, q8, q9, q10⟩; have K2 := (hb2.out.block wr.heap.size (by simp [World.drew])).trans (heap_alloc_new wr (.cells #[.int .i64 0, .int .u64 0, .slice none 0 0] 31)); have y0 := one_cell K2 0; have y1 := one_cell K2 1; have y2 := one_cell K2 2; have z0 := one_free K2 0; have z1 := one_free K2 1; have z2 := one_free K2 2; have HK2 := Lib.hid K2; clear K2)
          | fail)
        focus (
          have hd2 : Below wr.heap.size wr w2 := (Below.refl wr.heap.size wr).drew.trans hb2.out
          obtain ⟨W, hW⟩ : ∃ W, W = w2.alloc (.cells #[.int .i64 2, .int .u64 0, .slice none 0 0] 31) := ⟨_, rfl⟩
          rw [← hW]
          have hbw : Below w1.heap.size w1 W := by rw [hW]; exact HBE.out.trans ((hd2.alloc hd2.size _).mono HBE.out.size)
          have hbx : W.heap[w2.heap.size]? = some (.cells #[.int .i64 2, .int .u64 0, .slice none 0 0] 31 (0, 0)) := by rw [hW]; exact heap_alloc_new w2 _
          have HBW := Lib.hid hbw
          have HBX := Lib.hid hbx
          clear hW hbw hbx
          generalize w2.heap.size = bx at HBX ⊢)
        rotate_left
        focus (
          have hd2 : Below wr.heap.size wr w2 := (((Below.refl wr.heap.size wr).alloc (Nat.le_refl _) _).drew).trans (hb2.out.mono (by simp [World.drew]))
          have h1 := Joins.block_setCell (i := 0) HK2.out (.int .i64 2)
          have h2' := Joins.block_setCell (i := 1) h1 (.int .u64 0)
          have h3 := Joins.block_setCell (i := 2) h2' (.slice none 0 0)
          obtain ⟨W, hW⟩ : ∃ W, W = ((w2.setCell ⟨wr.heap.size, 0, none⟩ (.int .i64 2)).setCell ⟨wr.heap.size, 1, none⟩ (.int .u64 0)).setCell ⟨wr.heap.size, 2, none⟩ (.slice none 0 0) := ⟨_, rfl⟩
          rw [← hW]
          have hbw : Below w1.heap.size w1 W := by rw [hW]; exact HBE.out.trans ((((hd2.setCell (Nat.le_refl _) _).setCell (Nat.le_refl _) _).setCell (Nat.le_refl _) _).mono HBE.out.size)
          have hbx : W.heap[wr.heap.size]? = some (.cells #[.int .i64 2, .int .u64 0, .slice none 0 0] 31 (0, 0)) := by rw [hW]; exact h3
          have HBW := Lib.hid hbw
          have HBX := Lib.hid hbx
          clear hW hbw hbx h1 h2' h3
          generalize wr.heap.size = bx at HBX ⊢)
        all_goals
          have t0 : W.cell? ⟨bx, 0, none⟩ = some (.int .i64 2) := one_cell HBX.out 0
          have t1 : W.cell? ⟨bx, 1, none⟩ = some (.int .u64 0) := one_cell HBX.out 1
          have t2 : W.cell? ⟨bx, 2, none⟩ = some (.slice none 0 0) := one_cell HBX.out 2
          have HOW := Lib.hid (HO.out.kept HBW.out)
          obtain ⟨g, rfl, hgr⟩ : ∃ g, R = some ⟨g, 0, none⟩ ∧ n ≤ rc := by
            rcases HOW.out.form with ⟨_, e, _⟩ | ⟨g, e, _, _, e2⟩
            · have := congrArg List.length e; simp at this; omega
            · exact ⟨g, e, by simpa using e2⟩
          have hrk : (List.replicate n ())[k]? = some () := by rw [List.getElem?_replicate, if_pos hlt]
          have r0 : W.cell? ⟨g, k * 3, none⟩ = some (.int .i64 2) := HOW.out.cell res_elem hrk 0 (by decide)
          have r1 : W.cell? ⟨g, k * 3 + 1, none⟩ = some (.int .u64 0) := HOW.out.cell res_elem hrk 1 (by decide)
          have r2 : W.cell? ⟨g, k * 3 + 2, none⟩ = some (.slice none 0 0) := HOW.out.cell res_elem hrk 2 (by decide)
          have d0 : ∀ d os, (grow (redrawn W d) os).cell? ⟨bx, 0, none⟩ = some (.int .i64 2) := fun d os => cell_regrown t0 d os
          have d1 : ∀ d os, (grow (redrawn W d) os).cell? ⟨bx, 1, none⟩ = some (.int .u64 0) := fun d os => cell_regrown t1 d os
          have d2 : ∀ d os, (grow (redrawn W d) os).cell? ⟨bx, 2, none⟩ = some (.slice none 0 0) := fun d os => cell_regrown t2 d os
          have d3 : ∀ d os, (grow (redrawn W d) os).cell? ⟨g, k * 3, none⟩ = some (.int .i64 2) := fun d os => cell_regrown r0 d os
          have d4 : ∀ d os, (grow (redrawn W d) os).cell? ⟨g, k * 3 + 1, none⟩ = some (.int .u64 0) := fun d os => cell_regrown r1 d os
          have d5 : ∀ d os, (grow (redrawn W d) os).cell? ⟨g, k * 3 + 2, none⟩ = some (.slice none 0 0) := fun d os => cell_regrown r2 d os
          have hG := fun d os => Calls.regrown_of (same_res (grow (redrawn W d) os))
          have HG := Lib.hid hG
          have i1 : k < rc := by omega
          clear hG hrk c0 c1 c2 c3 c4 c5 c6 c7 c8 c9 c10
          go_upto_region 11 with (fail)
          refine wp_region_quiet_below (by kernel_rfl) (by kernel_rfl) ?_; (repeat (go_big_quiet_step ((exact HG.out _ _)))); refine wpQuiet_nil ?_; intro _ hw'; obtain ⟨⟨dq, osq⟩, hw''⟩ := hw'; subst hw''; have hbq := below_regrown (W) dq osq; generalize grow (redrawn (W) dq) osq = wq at hbq ⊢
          clear d0 d1 d2 d3 d4 d5 t0 t1 t2 r0 r1 r2
          go_wp2_with fail
          go_roundw
          case rel => exact ⟨k + 1, by omega, by go_num, HBW.out.trans (hbq.mono HBW.out.size)⟩
          case measure => (simp [intOf]; omega)
      · obtain rfl : k = n := by omega
        have HB2 := Lib.hid (HB.out.trans (HBE.out.mono HB.out.size))
        go_wp2_with (first
          | (go_at_call 8; refine (peek_nil _ _ _ _).mono ?_; rintro e w2 ⟨rfl, hb2⟩; have HW2 := Lib.hid (HB2.out.trans (hb2.mono HB2.out.size)); clear hb2)
          | (go_at_call 9; refine (procs_nil _).mono ?_; rintro e w3 ⟨rfl, rfl⟩)
          | (go_at_call 10; refine (cache_nil _).mono ?_; rintro e w4 ⟨rfl, rfl⟩)
          | (go_at_call 11; refine (space_nil _ _).mono ?_; rintro e w5 ⟨rfl, rfl⟩)
          | (go_at_call 4; refine (HW.out _ HW2.out).mono ?_; rintro e w6 ⟨rfl, hb6⟩)
          | fail)
        go_ret
        exact ⟨rfl, HW2.out.trans (hb6.mono HW2.out.size)⟩
  · have hng : (200 : Int) < (n : Int) := by omega
    clear hl
    go_enter Tryz.func3, Tryz.ntmps3
    go_wp2_with (first
      | (go_at_call 4; refine (HW.out _ (Below.refl _ _)).mono ?_; rintro e w1 ⟨rfl, hb⟩)
      | fail)
    go_ret
    exact ⟨rfl, hb⟩

end Go.Proofs.YtadmeeabbkpmlaaGreatDoor
