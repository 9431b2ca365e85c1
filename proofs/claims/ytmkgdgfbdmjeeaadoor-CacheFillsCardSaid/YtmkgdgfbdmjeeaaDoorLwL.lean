/- The cache's statements: works. -/
import Derived.Test.YtmkgdgfbdmjeeaaDoorSlB
import Derived.Test.YtmkgdgfbdmjeeaaDoorLwA
import Derived.Test.YtmkgdgfbdmjeeaaDoorVpZ
import Derived.Test.YtmkgdgfbdmjeeaaDoorTfZ
namespace Go.Proofs.YtmkgdgfbdmjeeaaDoor
open Go.RowKit Go.Sort
set_option linter.unusedSimpArgs false
set_option linter.unusedVariables false

theorem cfiles_any (c a fs m : Nat) (clock : Int) (w : World) (h : CacheSelf w c a fs m clock) : Calls Tryd.prog 42 #[.pointer (some ⟨c, 0, none⟩)] w fun e w' => e = .returned (.pointer (some ⟨fs, 0, none⟩)) ∧ w = w' := by
  have c1 : w.cell? ⟨c, 1, none⟩ = some (.pointer (some ⟨fs, 0, none⟩)) := one_block h 1
  clear h
  go_enter Tryd.func42, Tryd.ntmps42
  go_wp2_with fail
  go_ret
  exact ⟨rfl, rfl⟩
theorem ptr_equalIn (d : Nat) (t u : TypeId) (n : Nat) (x : Addr) (W : World) (h : Tryd.prog.underlying t = some (.pointer u)) (hz : ∀ W, (Go.sizeOf u).run Tryd.prog W = .ok n W) : (Op.equalIn (d + 1) t (.pointer (some x)) (.pointer (some x))).run Tryd.prog W = .ok true W := by
  simp [Op.equalIn, run_underlying h, hz, Result.andThen, sameAddr]
theorem ptr_equal (t u : TypeId) (n : Nat) (x : Addr) (W : World) (h : Tryd.prog.underlying t = some (.pointer u)) (hz : ∀ W, (Go.sizeOf u).run Tryd.prog W = .ok n W) : (Op.equal t (.pointer (some x)) (.pointer (some x))).run Tryd.prog W = .ok true W := ptr_equalIn 9999 t u n x W h hz
theorem ptr_neq (t u : TypeId) (n : Nat) (x : Addr) (W : World) (h : Tryd.prog.underlying t = some (.pointer u)) (hz : ∀ W, (Go.sizeOf u).run Tryd.prog W = .ok n W) : (binOp .neq t (.pointer (some x)) (.pointer (some x))).run Tryd.prog W = .ok (.bool false) W := by
  simp only [binOp]
  simp [ptr_equal t u n x W h hz]
theorem pool_neq (a : Nat) (W : World) : (binOp .neq 32 (.pointer (some ⟨a, 0, none⟩)) (.pointer (some ⟨a, 0, none⟩))).run Tryd.prog W = .ok (.bool false) W := ptr_neq _ _ _ _ W Tryd.underlying32 Tryd.sizeOf130
theorem files_neq (a : Nat) (W : World) : (binOp .neq 73 (.pointer (some ⟨a, 0, none⟩)) (.pointer (some ⟨a, 0, none⟩))).run Tryd.prog W = .ok (.bool false) W := ptr_neq _ _ _ _ W Tryd.underlying73 Tryd.sizeOf154
theorem Small.nil : Small [] := fun s hs => by cases hs
/-- Page 0 of a file of one byte, 7. -/
theorem read_seven (w : World) (fs : Nat) (hF : FilesAt w fs 1 fun _ => 7) : ReadIs w fs 1 (0 * 4096) 0 1 fun _ => 7 := by
  obtain ⟨d, x, g, nb, c2, cd, hF⟩ := hF
  refine (fread_one d x g fs nb c2 cd 1 0 (fun _ => 7) w hF (by omega) (by omega)).mono ?_
  rintro e w1 ⟨A, k, cap, rfl, hk, hA, hAn, hb⟩
  obtain rfl : k = 1 := by omega
  exact ⟨some A, cap, rfl, hA, fun ad e h0 => by injection e with e; subst e; exact hAn h0, hb⟩
/-- What Get of that page comes to, the cache being new. -/
theorem get_seven {p' : Pool} {L' : List Slot} {r clock' : Int} {f : Nat} (h : GetRes 1 0 0 1 (fun _ => 7) (fresh 2) [] 0 r f p' L' clock') :
    r = 0 ∧ f = 0 ∧ L' = [⟨1, 0, 0, 1⟩] ∧ p'.n = 2 ∧ p'.cnt 0 = 1 ∧ p'.dat 0 0 = 7 ∧ p'.dat 0 1 = 0 ∧ clock' = 1 := by
  cases h with
  | bad h => omega
  | err _ _ h => exact absurd rfl h
  | hit s _ _ _ h => simp at h
  | full _ _ _ _ ht =>
    obtain ⟨h, _⟩ := ht.first (fresh_lowest (by omega : 1 ≤ 2))
    cases h
  | miss f p1 L1 _ _ _ _ ht =>
    obtain ⟨_, rfl, rfl, rfl⟩ := ht.first (fresh_lowest (by omega : 1 ≤ 2))
    exact ⟨rfl, rfl, rfl, rfl, rfl, rfl, rfl, rfl⟩
theorem count_seven {p : Pool} (hn : p.n = 2) (hc : p.cnt 0 = 1) : countB p ((0 : Nat) : Int) = 1 := by
  have ht : takenB p ((0 : Nat) : Int) = true := by rw [takenB_nat]; exact decide_eq_true ⟨by omega, by omega⟩
  unfold countB
  rw [if_pos ht]
  exact hc

set_option maxRecDepth 100000 in
set_option maxHeartbeats 4000000 in
theorem works8_any (w : World) (hdb : DB w) (hw0 : 0 < w.heap.size) : Calls Tryd.prog 43 #[] w fun e w' => e = .returned (.bool true) ∧ Below w.heap.size w w' := by
  obtain ⟨w0, hw0'⟩ : ∃ w0, w0 = ((w.alloc (.cells #[.int .u8 7] 5)).alloc (.cells #[.string ⟨#[47, 97]⟩, .int .u8 1, .int .u16 420, .int .u32 0, .int .u32 0, .slice (some ⟨w.heap.size, 0, none⟩) 1 1, .string ⟨#[]⟩] 156)) := ⟨_, rfl⟩
  have hb0 : Below w.heap.size w w0 := by rw [hw0']; exact ((Below.refl _ _).alloc (Nat.le_refl _) _).alloc (by simp) _
  have hs0 : w0.heap.size = w.heap.size + 1 + 1 := by rw [hw0']; simp
  have hE : w0.heap[w.heap.size + 1]? = some (.cells #[.string ⟨#[47, 97]⟩, .int .u8 1, .int .u16 420, .int .u32 0, .int .u32 0, .slice (some ⟨w.heap.size, 0, none⟩) 1 1, .string ⟨#[]⟩] 156 (0, 0)) := by
    rw [hw0']
    have e : (w.alloc (.cells #[.int .u8 7] 5)).heap.size = w.heap.size + 1 := by simp
    rw [← e]
    exact heap_alloc_new _ _
  have hD : w0.heap[w.heap.size]? = some (.cells #[.int .u8 7] 5 (0, 0)) := by rw [hw0']; exact (Below.heap_alloc _ _ _ (by simp)).trans (heap_alloc_new w _)
  have hA : BytesV w0 (some ⟨w.heap.size, 0, none⟩) 1 fun _ => 7 := fun _ => ⟨_, rfl, fun j hj => by
    obtain rfl : j = 0 := by omega
    exact one_block hD 0⟩
  have hnew := vnew_a (w.heap.size + 1) 1 1 ⟨w.heap.size, 0, none⟩ (fun _ => 7) w0 hE hA (by show w.heap.size < _; omega) (by omega) (by omega)
  have HNEW := Lib.hid hnew
  have HW0 := Lib.hid hw0'
  have HB0 := Lib.hid hb0
  have HDB := Lib.hid hdb
  clear hnew hw0' hb0 hdb hE hD hA
  have hpn := pool_neq
  have hfn := files_neq
  go_enter Tryd.func43, Tryd.ntmps43
  go_upto_region 8 with (first
    | (go_at_call 38; rw [← HW0.out]; refine (HNEW.out).mono ?_; rintro e w1 ⟨fs, rfl, hF, hb1⟩; have hB1 := HB0.out.trans (hb1.mono HB0.out.size); have HF := Lib.hid hF; have HB1 := Lib.hid hB1; have HDB1 := Lib.hid (HDB.out.same (hB1.block 0 hw0)); have hz1 := hB1.size; clear hF hb1 hB1)
    | (go_at_call 37; refine (fnew_any 2 _ (by omega) (by omega) HDB1.out (by omega)).mono ?_; rintro e w2 ⟨a, S, rfl, hP, hb2, hS2⟩; have HP := Lib.hid hP; have HB2 := Lib.hid hb2; have HS2 := Lib.hid hS2; have hz2 := hb2.size; clear hP hb2 hS2)
    | (go_at_call 39; refine (cnew_any a fs _ S (fresh 2) HP.out).mono ?_; rintro e w3 ⟨c, m, rfl, hC, hb3, hc3, hm3⟩; have HC := Lib.hid hC; have HB3 := Lib.hid hb3; have hz3 := hb3.size; clear hC hb3)
    | (go_at_call 41; refine (cpool_any c a fs m 0 _ HC.out.self).mono ?_; rintro e w4 ⟨rfl, rfl⟩)
    | (go_at_call 42; refine (cfiles_any c a fs m 0 _ HC.out.self).mono ?_; rintro e w4 ⟨rfl, rfl⟩))
  have hb13 : Below w1.heap.size w1 w3 := HB2.out.trans (HB3.out.mono hz2)
  have hget := get_new c a fs m 1 1 0 0 0 (fun _ => 7) w3 S (fresh 2) [] HC.out (by omega) (by omega) rfl (read_seven w3 fs (HF.out.below rfl hb13)) (fun _ => by omega) (by omega) ⟨by omega, by omega⟩ rfl
  have HG := Lib.hid hget
  clear hget
  go_wp2_with fail
  refine (HG.out).mono ?_
  rintro e w4 ⟨r, f, p4, L4, clk, S4, rfl, hC4, hm4, ho4, hres⟩
  obtain ⟨rfl, rfl, rfl, hn4, hc4, hd0, hd1, rfl⟩ := get_seven hres
  have hld := load_yes a 0 0 2 w4 S4 p4 hC4.pool (by omega) (by omega) (by omega) (by omega)
  have hB4 : Below w1.heap.size w1 w4 := hb13.trans (hm4.below (fun b hb => by
    rcases hb with e | e | e
    · exact HS2.out b e
    · omega
    · omega) (by omega))
  have HLD := Lib.hid hld
  have HC4 := Lib.hid hC4
  have HB4 := Lib.hid hB4
  have hz4 := hm4.size
  clear hld hC4 hB4 hm4 ho4 hres
  go_wp2_with fail
  refine (HLD.out).mono ?_
  rintro e w5 ⟨rfl, hA5, hl5, hb5⟩
  have hC5 := HC4.out.below hb5
  have hsl := slots_any c a fs m 1 w5 _ hC5.self hC5.slots (by simp) (fun s hs => by
    obtain rfl := List.mem_singleton.1 hs
    exact ⟨rfl, rfl⟩)
  have HSL := Lib.hid hsl
  have HC5 := Lib.hid hC5
  have HA5 := Lib.hid hA5
  have HB5 := Lib.hid hb5
  have hz5 := hb5.size
  clear hsl hC5 hA5 hb5
  go_wp2_with fail
  refine (HSL.out).mono ?_
  rintro e w6 ⟨A, cap, L6, rfl, hO6, hp6, _, hb6⟩
  obtain rfl := List.perm_singleton.1 hp6
  rcases hO6.form with ⟨_, h9, _⟩ | ⟨g, cur, rfl, hg, hgl, hcap, _⟩
  · cases h9
  have r0 : w6.cell? ⟨g, 0, none⟩ = some (.int .i64 1) := hO6.cell (k := 0) (j := 0) (by omega) rfl
  have r2 : w6.cell? ⟨g, 2, none⟩ = some (.int .i64 0) := hO6.cell (k := 0) (j := 2) (by omega) rfl
  have d0 : w6.cell? ⟨w4.heap.size, 0, none⟩ = some (.int .u8 7) := (hb6.cell (p := ⟨w4.heap.size, 0, none⟩) hl5).trans (by
    rw [row_cell HA5.out (by omega)]
    simp only [Nat.zero_add, hd0]
    rfl)
  have d1 : w6.cell? ⟨w4.heap.size, 1, none⟩ = some (.int .u8 0) := (hb6.cell (p := ⟨w4.heap.size, 1, none⟩) hl5).trans (by
    rw [row_cell HA5.out (by omega)]
    simp only [Nat.zero_add, hd1]
    rfl)
  have hct := count_any a ((0 : Nat) : Int) w6 S4 p4 (HC5.out.pool.below hb6)
  rw [count_seven hn4 hc4] at hct
  have HCT := Lib.hid hct
  have HB6 := Lib.hid hb6
  clear hct hb6 hO6 hp6
  go_wp2_with (first
    | (go_at_call 30; refine (HCT.out).mono ?_; rintro e w7 ⟨rfl, rfl⟩))
  go_ret
  have h14 := HB4.out
  have h15 : Below w1.heap.size w1 w5 := h14.trans (HB5.out.mono h14.size)
  have h16 : Below w1.heap.size w1 w6 := h15.trans (HB6.out.mono h15.size)
  exact ⟨rfl, HB1.out.trans (h16.mono HB1.out.size)⟩

end Go.Proofs.YtmkgdgfbdmjeeaaDoor
