/- Regions: the walk of the statement RegionsRight. -/
import Derived.Test.YtdkhgofnhemhmaaRegR
namespace Go.Proofs.Ytdkhgofnhemhmaa
open Go.RowKit Go.Sort
set_option linter.unusedSimpArgs false
set_option linter.unusedVariables false

theorem lawRight_big (A : Option Addr) (n cap : Nat) (r : Reg) (a : Int) (w : World) (hn : 300 < n) (hm : n ≤ 9223372036854775807) :
    Calls Try.prog 3 #[.slice A n cap, .agg #[.int .u64 (r).fr, .int .u64 (r).to, .int .u8 (r).prot, .int .i64 (r).ino, .int .u64 (r).off], .int .u64 a] w fun e w' => e = .returned (.bool true) ∧ Below w.heap.size w w' := by
  have hd : decide (300 < n) = true := by simpa using hn
  have hL := fun W => large_any A n cap W hm
  rw [hd] at hL
  have HL := Lib.hid hL
  clear hL
  go_enter Try.func3, Try.ntmps3
  go_wp2_with (first
    | (go_at_call 9; refine (HL.out _).mono ?_; rintro e w1 ⟨rfl, rfl⟩)
    | (go_at_call 10; refine (works_any _).mono ?_; rintro e w2 ⟨rfl, hb2⟩))
  go_ret
  exact ⟨rfl, by ((repeat' (with_reducible (first | assumption | (refine Below.alloc ?_ ?_ _) | (refine Below.setCell ?_ ?_ _) | (refine Below.drew ?_) | (refine below_drewN ?_ _) | exact Below.refl _ _ | (refine Below.trans ?_ (Below.mono (by assumption) ?_))))) <;> (try simp) <;> (try omega))⟩

set_option maxHeartbeats 4000000 in
theorem lawRight (A : Option Addr) (n cap : Nat) (r : Reg) (a : Int) (w : World) (l : List Reg) (hl : RSl w w.heap.size A n cap l) (hok : AllOk l) (hn : n ≤ 300) :
    Calls Try.prog 3 #[.slice A n cap, .agg #[.int .u64 (r).fr, .int .u64 (r).to, .int .u8 (r).prot, .int .i64 (r).ino, .int .u64 (r).off], .int .u64 a] w fun e w' => e = .returned (.bool true) ∧ Below w.heap.size w w' := by
  have hd : decide (300 < n) = false := by simp; omega
  have hL := fun W => large_any A n cap W (by omega)
  rw [hd] at hL
  have HL := Lib.hid hL
  have hln := Lib.hid hl.len
  have hneq := run_neq_reg
  clear hL
  go_enter Try.func3, Try.ntmps3
  go_wp2_with fail
  refine (HL.out _).mono ?_
  rintro e w0 ⟨rfl, hw0⟩
  have hl0 := (hl.below (w' := w0) (B' := w.heap.size) (by subst hw0; ((repeat' (with_reducible (first | assumption | (refine Below.alloc ?_ ?_ _) | (refine Below.setCell ?_ ?_ _) | (refine Below.drew ?_) | (refine below_drewN ?_ _) | exact Below.refl _ _ | (refine Below.trans ?_ (Below.mono (by assumption) ?_))))) <;> (try simp) <;> (try omega))) (Nat.le_refl _)).more (B' := w0.heap.size) (by subst hw0; simp)
  have hB0 : Below w.heap.size w w0 := by subst hw0; ((repeat' (with_reducible (first | assumption | (refine Below.alloc ?_ ?_ _) | (refine Below.setCell ?_ ?_ _) | (refine Below.drew ?_) | (refine below_drewN ?_ _) | exact Below.refl _ _ | (refine Below.trans ?_ (Below.mono (by assumption) ?_))))) <;> (try simp) <;> (try omega))
  have hx0 : w0.heap[w.heap.size]? = some (.cells #[.int .u64 r.fr, .int .u64 r.to, .int .u8 r.prot, .int .i64 r.ino, .int .u64 r.off] 25 (0, 0)) := by subst hw0; exact heap_alloc_new w _
  have hs0 : w.heap.size < w0.heap.size := by subst hw0; simp
  clear hw0
  go_wp2_with fail
  refine (roomy_any A n cap _ l hl0 hn).mono ?_
  rintro e w1 ⟨A1, c1, rfl, hr1, hb1⟩
  have hz1 := hb1.size
  have hrs := hr1.rsl (by have := hln.out; omega)
  rw [hln.out] at hrs
  have hl1 := (hl0.below hb1 (Nat.le_refl _)).more hb1.size
  have hx1 := (hb1.block _ hs0).trans hx0
  clear hl0 hx0
  go_wp2_with fail
  refine (find_any A1 n c1 a w1 l hrs).mono ?_
  rintro e w2 ⟨rfl, hb2⟩
  have hz2 := hb2.size
  have hl2 := (hl1.below hb2 (Nat.le_refl _)).more hb2.size
  have hr2 := OwnR.below hr1 hb2 (Nat.le_refl _)
  have hx2 := (hb2.block _ (by omega)).trans hx1
  clear hl1 hr1 hrs hx1
  have hF := fun W (h : RSl W W.heap.size A n cap l) => rfind_any A n cap a W l h
  generalize hfd : Rg.find l a = fd at *
  have HF := Lib.hid hF
  clear hF hfd
  have hf2 : ∀ o, Below w2.heap.size w2 (w2.alloc o) := fun o => by ((repeat' (with_reducible (first | assumption | (refine Below.alloc ?_ ?_ _) | (refine Below.setCell ?_ ?_ _) | (refine Below.drew ?_) | (refine below_drewN ?_ _) | exact Below.refl _ _ | (refine Below.trans ?_ (Below.mono (by assumption) ?_))))) <;> (try simp) <;> (try omega))
  have hl3 : ∀ o, RSl (w2.alloc o) (w2.alloc o).heap.size A n cap l := fun o => (hl2.below (hf2 o) (Nat.le_refl _)).more (by simp)
  have hbf := heap_alloc_new w2 (.cells #[.int .u64 fd.1.fr, .int .u64 fd.1.to, .int .u8 fd.1.prot, .int .i64 fd.1.ino, .int .u64 fd.1.off] 25)
  have HL3 := Lib.hid hl3
  clear hl3
  go_wp2_with fail
  refine (HF.out _ (HL3.out _)).mono ?_
  rintro e w3 ⟨rfl, hb3⟩
  have hz3 := hb3.size
  simp at hz3
  have hx3 := (hb3.block _ (by simp; omega)).trans ((Below.heap_alloc w2 _ _ (by omega)).trans hx2)
  have hg3 := (hb3.block _ (by simp)).trans hbf
  have hl4 := ((HL3.out _).below hb3 (Nat.le_refl _)).more (B' := w3.heap.size) (by simp; omega)
  have hr4 := OwnR.below (OwnR.alloc hr2 _) hb3 (Nat.le_refl _)
  have hf3 : Below w3.heap.size w3 (w3.alloc (.cells #[.int .u64 fd.1.fr, .int .u64 fd.1.to, .int .u8 fd.1.prot, .int .i64 fd.1.ino, .int .u64 fd.1.off] 25)) := by ((repeat' (with_reducible (first | assumption | (refine Below.alloc ?_ ?_ _) | (refine Below.setCell ?_ ?_ _) | (refine Below.drew ?_) | (refine below_drewN ?_ _) | exact Below.refl _ _ | (refine Below.trans ?_ (Below.mono (by assumption) ?_))))) <;> (try simp) <;> (try omega))
  have hl5 := (hl4.below hf3 (Nat.le_refl _)).more (B' := (w3.alloc (.cells #[.int .u64 fd.1.fr, .int .u64 fd.1.to, .int .u8 fd.1.prot, .int .i64 fd.1.ino, .int .u64 fd.1.off] 25)).heap.size) (by simp)
  have hr5 := OwnR.alloc hr4 (.cells #[.int .u64 fd.1.fr, .int .u64 fd.1.to, .int .u8 fd.1.prot, .int .i64 fd.1.ino, .int .u64 fd.1.off] 25)
  have hx5 := (Below.heap_alloc w3 (.cells #[.int .u64 fd.1.fr, .int .u64 fd.1.to, .int .u8 fd.1.prot, .int .i64 fd.1.ino, .int .u64 fd.1.off] 25) _ (by omega)).trans hx3
  have hg5 := (Below.heap_alloc w3 (.cells #[.int .u64 fd.1.fr, .int .u64 fd.1.to, .int .u8 fd.1.prot, .int .i64 fd.1.ino, .int .u64 fd.1.off] 25) _ (by omega)).trans hg3
  have hh5 := heap_alloc_new w3 (.cells #[.int .u64 fd.1.fr, .int .u64 fd.1.to, .int .u8 fd.1.prot, .int .i64 fd.1.ino, .int .u64 fd.1.off] 25)
  have hrs5 := Roomy.rsl hr5 (by have := hln.out; omega)
  rw [hln.out] at hrs5
  have hR1 := right_any A1 n c1 _ l hrs5 hok
  have hR2 := fun W (h : RSl W W.heap.size A n cap l) => rright_any A n cap W l h hok
  generalize Rg.right l = rt at hR1 hR2
  have HR1 := Lib.hid hR1
  have HR2 := Lib.hid hR2
  clear hR1 hR2 hrs5 hl2 hr2 hx2 hbf hx3 hg3 hl4 hr4
  go_wp2_with fail
  refine (HR1.out).mono ?_
  rintro e w6 ⟨rfl, hb6⟩
  have hz6 := hb6.size
  simp at hz6
  have hl6 := (hl5.below hb6 (Nat.le_refl _)).more hb6.size
  have hr6 := OwnR.below hr5 hb6 (Nat.le_refl _)
  have hx6 := (hb6.block _ (by simp; omega)).trans hx5
  have hg6 := (hb6.block _ (by simp; omega)).trans hg5
  have hh6 := (hb6.block _ (by simp)).trans hh5
  clear hl5 hr5 hx5 hg5 hh5
  go_wp2_with fail
  refine (HR2.out _ hl6).mono ?_
  rintro e w7 ⟨rfl, hb7⟩
  have hz7 := hb7.size
  have hl7 := (hl6.below hb7 (Nat.le_refl _)).more hb7.size
  have hr7 := OwnR.below hr6 hb7 (Nat.le_refl _)
  have hx7 := (hb7.block _ (by omega)).trans hx6
  obtain ⟨g0, g1, g2, g3, g4⟩ := box_facts ((hb7.block _ (by omega)).trans hg6)
  obtain ⟨k0, k1, k2, k3, k4⟩ := box_facts ((hb7.block _ (by omega)).trans hh6)
  clear hl6 hr6 hx6 hg6 hh6
  have hre : regEq ⟨fd.1.fr, fd.1.to, fd.1.prot, fd.1.ino, fd.1.off⟩ ⟨fd.1.fr, fd.1.to, fd.1.prot, fd.1.ino, fd.1.off⟩ = true := by simp [regEq]
  have q7 : Below w.heap.size w w7 := by
    have e1 : Below w.heap.size w w2 := (hB0.trans (hb1.mono (by omega))).trans (hb2.mono (by omega))
    have e2 : Below w.heap.size w w3 := (e1.alloc (by omega) _).trans (hb3.mono (by simp; omega))
    exact ((e2.alloc (by omega) _).trans (hb6.mono (by simp; omega))).trans (hb7.mono (by omega))
  go_wp2
  obtain ⟨gi, hAi, hgi1, hgi2, hgi3⟩ := Roomy.form hr7
  have HX := Lib.hid hx7
  have HRM := Lib.hid hr7
  have HLL := Lib.hid hl7
  clear hx7 hr7 hl7 g0 g1 g2 g3 g4 k0 k1 k2 k3 k4 hre hneq
  subst hAi
  go_loopw [12] (fun i wr => ∃ k : Nat, k ≤ n ∧ i = .int .i64 k ∧ Below w7.heap.size w7 wr) (fun i _ => n - (intOf i).toNat)
  case atStart => exact ⟨0, Nat.zero_le _, rfl, Below.refl _ _⟩
  case round =>
    obtain ⟨k, hk, rfl, hB⟩ := hrel
    have hBs := hB.size
    have hxr := (hB.block _ (by omega)).trans HX.out
    have hrr := OwnR.below HRM.out hB (Nat.le_refl _)
    have hlr := (HLL.out.below hB (Nat.le_refl _)).more (B' := wr.heap.size) hBs
    by_cases hlt : k < n
    · obtain ⟨x, hx⟩ : ∃ x, l[k]? = some x := ⟨_, List.getElem?_eq_getElem (by have := hln.out; omega)⟩
      obtain ⟨b, off, rfl, hb, hra⟩ := hlr.at_ k x hx
      have hin := OwnR.elem hrr (j := k) (p := x) (by rw [List.getElem?_append_left (by have := hln.out; omega)]; exact hx)
      have hbx := box_facts hxr
      have b0 := fun d os => (hra.re d os).c0
      have b1 := fun d os => (hra.re d os).c1
      have b2 := fun d os => (hra.re d os).c2
      have b3 := fun d os => (hra.re d os).c3
      have b4 := fun d os => (hra.re d os).c4
      have i0 := fun d os => (hin.re d os).c0
      have i1 := fun d os => (hin.re d os).c1
      have i2 := fun d os => (hin.re d os).c2
      have i3 := fun d os => (hin.re d os).c3
      have i4 := fun d os => (hin.re d os).c4
      have x0 := fun d os => (hbx.re d os).c0
      have x1 := fun d os => (hbx.re d os).c1
      have x2 := fun d os => (hbx.re d os).c2
      have x3 := fun d os => (hbx.re d os).c3
      have x4 := fun d os => (hbx.re d os).c4
      have C1 := Lib.hid (fun d os => joins_q (W := wr) x r d os)
      have C2 := Lib.hid (fun d os => rjoins_q (W := wr) x r d os)
      have C3 := Lib.hid (fun d os => joins_q (W := wr) r x d os)
      have C4 := Lib.hid (fun d os => rjoins_q (W := wr) r x d os)
      have hkn : (k : Int) < (n : Int) := by omega
      have hk0 : (0 : Int) ≤ (k : Int) := by omega
      clear hra hin hbx hx hl HLL hlr hxr hrr
      go_wp2
      refine wp_region_quiet_below (by kernel_rfl) (by kernel_rfl) ?_; (repeat (go_big_quiet_step (first | (with_reducible exact C1.out _ _) | (with_reducible exact C2.out _ _) | (with_reducible exact C3.out _ _) | (with_reducible exact C4.out _ _)))); refine wpQuiet_nil ?_; intro _ hw'; obtain ⟨⟨dq, osq⟩, hw''⟩ := hw'; subst hw''; have hbq := below_regrown (wr) dq osq; generalize grow (redrawn (wr) dq) osq = wq at hbq ⊢
      go_wp2
      go_roundw
      case rel => exact ⟨k + 1, by omega, by go_num, by ((repeat' (with_reducible (first | assumption | (refine Below.alloc ?_ ?_ _) | (refine Below.setCell ?_ ?_ _) | (refine Below.drew ?_) | (refine below_drewN ?_ _) | exact Below.refl _ _ | (refine Below.trans ?_ (Below.mono (by assumption) ?_))))) <;> (try simp) <;> (try omega))⟩
      case measure => simp [intOf]; omega
    · have hK := kept_any _ A n c1 cap n wr _ l l hrr hln.out hn hlr
      have hd4 : decide (l = l) = true := by simp
      rw [hd4] at hK
      have HK := Lib.hid hK
      clear hK hd4 hrr hlr hxr
      go_wp2_with (first
        | (go_at_call 18; refine (HK.out).mono ?_; rintro e w8 ⟨rfl, hb8⟩; have hz8 := hb8.size)
        | (go_at_call 10; refine (works_any _).mono ?_; rintro e w9 ⟨rfl, hb9⟩))
      go_ret
      refine ⟨rfl, ?_⟩
      exact ((q7.trans (hB.mono (by omega))).trans (hb8.mono (by omega))).trans (hb9.mono (by omega))

end Go.Proofs.Ytdkhgofnhemhmaa
