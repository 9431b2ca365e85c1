/- Regions: the walks of the statements RegionsGaps, RegionsPuts, RegionsRight. -/
import Derived.Test.YtdkhgofnhemhmaaRegP
namespace Go.Proofs.Ytdkhgofnhemhmaa
open Go.RowKit Go.Sort
set_option linter.unusedSimpArgs false
set_option linter.unusedVariables false

theorem lawGaps_big (A : Option Addr) (n cap : Nat) (s lo : Int) (w : World) (hn : 300 < n) (hm : n ≤ 9223372036854775807) :
    Calls Try.prog 5 #[.slice A n cap, .int .u64 s, .int .u64 lo] w fun e w' => e = .returned (.bool true) ∧ Below w.heap.size w w' := by
  have hL := large_any A n cap w hm
  have hd : decide (300 < n) = true := by simpa using hn
  rw [hd] at hL
  have HL := Lib.hid hL
  clear hL
  go_enter Try.func5, Try.ntmps5
  go_wp2_with (first
    | (go_at_call 9; refine (HL.out).mono ?_; rintro e w1 ⟨rfl, rfl⟩)
    | (go_at_call 10; refine (works_any _).mono ?_; rintro e w2 ⟨rfl, hb2⟩))
  go_ret
  exact ⟨rfl, hb2⟩

set_option maxHeartbeats 1000000 in
theorem lawGaps (A : Option Addr) (n cap : Nat) (s lo : Int) (w : World) (l : List Reg) (hl : RSl w w.heap.size A n cap l) (hok : AllOk l) (hn : n ≤ 300) (hs0 : 0 ≤ s) (ha0 : 0 ≤ lo) (ha1 : lo ≤ 18446744073709551615) :
    Calls Try.prog 5 #[.slice A n cap, .int .u64 s, .int .u64 lo] w fun e w' => e = .returned (.bool true) ∧ Below w.heap.size w w' := by
  have hL := large_any A n cap w (by omega)
  have hd : decide (300 < n) = false := by simp; omega
  rw [hd] at hL
  have HL := Lib.hid hL
  have hln := Lib.hid hl.len
  clear hL
  go_enter Try.func5, Try.ntmps5
  go_wp2_with fail
  refine (HL.out).mono ?_
  rintro e w0 ⟨rfl, rfl⟩
  go_wp2_with fail
  refine (roomy_any A n cap _ l hl hn).mono ?_
  rintro e w1 ⟨A1, c1, rfl, hr1, hb1⟩
  have hz1 := hb1.size
  have hrs := hr1.rsl (by have := hln.out; omega)
  rw [hln.out] at hrs
  have hl1 := (hl.below hb1 (Nat.le_refl _)).more hb1.size
  go_wp2_with fail
  refine (gap_any A1 n c1 s lo w1 l hrs hok hs0 ha0 ha1).mono ?_
  rintro e w2 ⟨rfl, hb2⟩
  have hz2 := hb2.size
  have hl2 := (hl1.below hb2 (Nat.le_refl _)).more hb2.size
  have hr2 := OwnR.below hr1 hb2 (Nat.le_refl _)
  clear hl1 hrs hr1
  have HG := Lib.hid (rgap_any A n cap s lo w2 l hl2 hok hs0 ha0 ha1)
  go_wp2_with fail
  refine (HG.out).mono ?_
  rintro e w3 ⟨rfl, hb3⟩
  have hz3 := hb3.size
  have hl3 := (hl2.below hb3 (Nat.le_refl _)).more hb3.size
  have hr3 := OwnR.below hr2 hb3 (Nat.le_refl _)
  have hK := kept_any A1 A n c1 cap n w3 _ l l hr3 hln.out hn hl3
  have hd4 : decide (l = l) = true := by simp
  rw [hd4] at hK
  have HK := Lib.hid hK
  clear hK hd4
  clear HG hl2 hr2 hl3 hr3
  generalize Rg.gap l s lo = p at *
  go_wp2_with (first
    | (go_at_call 18; refine (HK.out).mono ?_; rintro e w4 ⟨rfl, hb4⟩; have hz4 := hb4.size)
    | (go_at_call 10; refine (works_any _).mono ?_; rintro e w5 ⟨rfl, hb5⟩))
  go_ret
  exact ⟨rfl, by ((repeat' (with_reducible (first | assumption | (refine Below.alloc ?_ ?_ _) | (refine Below.setCell ?_ ?_ _) | (refine Below.drew ?_) | (refine below_drewN ?_ _) | exact Below.refl _ _ | (refine Below.trans ?_ (Below.mono (by assumption) ?_))))) <;> (try simp) <;> (try omega))⟩

theorem lawPuts_big (A : Option Addr) (n cap : Nat) (r : Reg) (w : World) (hn : 300 < n) (hm : n ≤ 9223372036854775807) :
    Calls Try.prog 4 #[.slice A n cap, .agg #[.int .u64 (r).fr, .int .u64 (r).to, .int .u8 (r).prot, .int .i64 (r).ino, .int .u64 (r).off]] w fun e w' => e = .returned (.bool true) ∧ Below w.heap.size w w' := by
  have hd : decide (300 < n) = true := by simpa using hn
  have hL := fun W => large_any A n cap W hm
  rw [hd] at hL
  have HL := Lib.hid hL
  clear hL
  go_enter Try.func4, Try.ntmps4
  go_wp2_with (first
    | (go_at_call 9; refine (HL.out _).mono ?_; rintro e w1 ⟨rfl, rfl⟩)
    | (go_at_call 10; refine (works_any _).mono ?_; rintro e w2 ⟨rfl, hb2⟩))
  go_ret
  exact ⟨rfl, by ((repeat' (with_reducible (first | assumption | (refine Below.alloc ?_ ?_ _) | (refine Below.setCell ?_ ?_ _) | (refine Below.drew ?_) | (refine below_drewN ?_ _) | exact Below.refl _ _ | (refine Below.trans ?_ (Below.mono (by assumption) ?_))))) <;> (try simp) <;> (try omega))⟩

set_option maxHeartbeats 1000000 in
theorem lawPuts (A : Option Addr) (n cap : Nat) (r : Reg) (w : World) (l : List Reg) (hl : RSl w w.heap.size A n cap l) (hok : AllOk l) (hr : r.Ok) (hn : n ≤ 300) :
    Calls Try.prog 4 #[.slice A n cap, .agg #[.int .u64 (r).fr, .int .u64 (r).to, .int .u8 (r).prot, .int .i64 (r).ino, .int .u64 (r).off]] w fun e w' => e = .returned (.bool true) ∧ Below w.heap.size w w' := by
  have hd : decide (300 < n) = false := by simp; omega
  have hL := fun W => large_any A n cap W (by omega)
  rw [hd] at hL
  have HL := Lib.hid hL
  have hln := Lib.hid hl.len
  clear hL
  go_enter Try.func4, Try.ntmps4
  go_wp2_with fail
  refine (HL.out _).mono ?_
  rintro e w0 ⟨rfl, hw0⟩
  have hl0 := (hl.below (w' := w0) (B' := w.heap.size) (by subst hw0; ((repeat' (with_reducible (first | assumption | (refine Below.alloc ?_ ?_ _) | (refine Below.setCell ?_ ?_ _) | (refine Below.drew ?_) | (refine below_drewN ?_ _) | exact Below.refl _ _ | (refine Below.trans ?_ (Below.mono (by assumption) ?_))))) <;> (try simp) <;> (try omega))) (Nat.le_refl _)).more (B' := w0.heap.size) (by subst hw0; simp)
  have hB0 : Below w.heap.size w w0 := by subst hw0; ((repeat' (with_reducible (first | assumption | (refine Below.alloc ?_ ?_ _) | (refine Below.setCell ?_ ?_ _) | (refine Below.drew ?_) | (refine below_drewN ?_ _) | exact Below.refl _ _ | (refine Below.trans ?_ (Below.mono (by assumption) ?_))))) <;> (try simp) <;> (try omega))
  have hx0 : w0.heap[w.heap.size]? = some (.cells #[.int .u64 r.fr, .int .u64 r.to, .int .u8 r.prot, .int .i64 r.ino, .int .u64 r.off] 25 (0, 0)) := by subst hw0; exact heap_alloc_new w _
  have hs0 : w.heap.size < w0.heap.size := by subst hw0; simp
  clear hw0
  go_wp2_with fail
  refine (roomy_any A n cap _ l hl0 hn).mono ?_
  rintro e w1 ⟨A1, c1, rfl, hr1, hb1⟩
  have hz1 := hb1.size
  have hrs := hr1.rsl (by have := hln.out; omega)
  rw [hln.out] at hrs
  have hl1 := (hl0.below hb1 (Nat.le_refl _)).more hb1.size
  have hx1 := (hb1.block _ hs0).trans hx0
  obtain ⟨a0, a1, a2, a3, a4⟩ := box_facts hx1
  clear hl0 hx0
  go_wp2_with fail
  refine (put_any r A1 n c1 w1 l hrs hok hr).mono ?_
  rintro e w2 ⟨A2, c2, rfl, ho2, hb2⟩
  have hz2 := hb2.size
  have hl2 := (hl1.below hb2 (Nat.le_refl _)).more hb2.size
  have hr2 := OwnR.below hr1 hb2 (Nat.le_refl _)
  have hx2 := (hb2.block _ (by omega)).trans hx1
  have hrow := hr1.row
  clear a0 a1 a2 a3 a4 hl1 hr1 hrs hx1
  obtain ⟨a0, a1, a2, a3, a4⟩ := box_facts hx2
  go_wp2_with fail
  refine (rput_any r A n cap w2 l hl2 hok hr).mono ?_
  rintro e w3 ⟨A3, c3, rfl, ho3, hb3⟩
  have hz3 := hb3.size
  have ho23 := ho2.below hb3 (Nat.le_refl _)
  have hpl : (Rg.put l r).1.length ≤ 100 := by
    unfold Rg.put Rg.few
    split
    · split
      · simp
      · simp; omega
    · simp
  generalize hp : Rg.put l r = p at *
  have hfew : p.1.length ≤ 1000000 := by omega
  have hEq := eq_any A2 A3 _ _ c2 c3 w3 p.1 p.1 (ho23.rsl hfew) (ho3.rsl hfew)
  have hde : decide (p.1 = p.1) = true := by simp
  rw [hde] at hEq
  have HE := Lib.hid hEq
  have hbase : w1.heap.size ≤ w3.heap.size := by omega
  have hl3 : RSl w1 w1.heap.size A n cap l := by
    refine ⟨hl2.len, hl2.cap, hl2.few, fun k x hx => ?_⟩
    obtain ⟨b, off, e, hb, hra⟩ := hl.at_ k x hx
    exact ⟨b, off, e, by omega, hra.below (hB0.trans (hb1.mono (by omega))) hb⟩
  have hr3 := OwnR.below hr2 hb3 (Nat.le_refl _)
  have hOwn : ∀ W, Below w3.heap.size w3 W → Calls Try.prog 22 #[.slice A2 p.1.length c2, .slice A1 n c1, .slice A n cap] W fun e w' => e = .returned (.bool true) ∧ Below w1.heap.size W w' := fun W hW =>
    own_any A2 A1 A c2 c1 n p.1.length cap W w1.heap.size _ p.1 l (ho23.below hW (Nat.le_refl _)) (by have := hW.size; omega) (by omega) (OwnR.below hr3 hW (Nat.le_refl _)) hln.out hn (fun b hb => (hrow b hb).2) (hl3.below ((hb2.trans (hb3.mono (by omega))).trans (hW.mono (by omega))) (Nat.le_refl _)) rfl
  have HO := Lib.hid hOwn
  clear hOwn hEq hde hfew hl2 hr2 hr3 hl3 ho23 ho2 ho3 hx2 a0 a1 a2 a3 a4 hp hl hrow
  go_wp2_with (first
    | (go_at_call 21; refine (HE.out).mono ?_; rintro e w4 ⟨rfl, hb4⟩; have hz4 := hb4.size)
    | (go_at_call 22; refine (HO.out _ hb4).mono ?_; rintro e w5 ⟨rfl, hb5⟩; have hz5 := hb5.size)
    | (go_at_call 10; refine (works_any _).mono ?_; rintro e w6 ⟨rfl, hb6⟩))
  go_ret
  refine ⟨rfl, ?_⟩
  have q1 : Below w.heap.size w w1 := hB0.trans (hb1.mono (by omega))
  have q3 : Below w.heap.size w w3 := (q1.trans (hb2.mono (by omega))).trans (hb3.mono (by omega))
  have q5 : Below w.heap.size w w5 := (q3.trans (hb4.mono (by omega))).trans (hb5.mono (by omega))
  exact q5.trans (hb6.mono (by omega))

end Go.Proofs.Ytdkhgofnhemhmaa
