/- Regions: the anchor of the statements: a region over another one parts it. -/
import Derived.Test.YtdkhgofnhemhmaaRegO
namespace Go.Proofs.Ytdkhgofnhemhmaa
open Go.RowKit Go.Sort
set_option linter.unusedSimpArgs false
set_option linter.unusedVariables false

def wf1 : Reg := ⟨16384, 32768, 5, 2, 0⟩
def wf2 : Reg := ⟨20480, 24576, 6, -1, 0⟩
def wl3 : List Reg := [⟨16384, 20480, 5, 2, 0⟩, ⟨20480, 24576, 6, -1, 0⟩, ⟨24576, 32768, 5, 2, 8192⟩]
theorem w_put : Rg.put [wf1] wf2 = (wl3, 0) := by decide +kernel
theorem w_find : Rg.find wl3 28672 = (⟨24576, 32768, 5, 2, 8192⟩, true) := by decide +kernel
theorem w_gap : Rg.gap wl3 4096 16384 = (32768, 0) := by decide +kernel
theorem w_right : Rg.right wl3 = true := by decide +kernel
theorem w_ok : AllOk wl3 := by
  intro r hr
  simp [wl3] at hr
  rcases hr with rfl | rfl | rfl <;> exact ⟨by decide, by decide, by decide, by decide, by decide, by decide, by decide, by decide, by decide, by decide⟩

theorem RSl.one {w : World} {b B : Nat} {r : Reg} (h : w.heap[b]? = some (.cells #[.int .u64 r.fr, .int .u64 r.to, .int .u8 r.prot, .int .i64 r.ino, .int .u64 r.off] 25 (0, 0))) (hB : b < B) : RSl w B (some ⟨b, 0, none⟩) 1 1 [r] := by
  refine ⟨rfl, Nat.le_refl _, by omega, fun k x hx => ?_⟩
  cases k with
  | zero =>
    simp at hx
    subst hx
    obtain ⟨c0, c1, c2, c3, c4⟩ := box_facts h
    exact ⟨b, 0, rfl, hB, ⟨c0, c1, c2, c3, c4⟩⟩
  | succ k => simp at hx

set_option maxHeartbeats 4000000 in
theorem works_any (w : World) : Calls Try.prog 10 #[] w fun e w' => e = .returned (.bool true) ∧ Below w.heap.size w w' := by
  have hok1 : AllOk [wf1] := by
    intro r hr
    simp at hr
    subst hr
    exact ⟨by decide, by decide, by decide, by decide, by decide, by decide, by decide, by decide, by decide, by decide⟩
  have hok2 : wf2.Ok := ⟨by decide, by decide, by decide, by decide, by decide, by decide, by decide, by decide, by decide, by decide⟩
  go_enter Try.func10, Try.ntmps10
  go_wp2_with fail
  have hb0 : (w.alloc (.cells #[.int .u64 wf1.fr, .int .u64 wf1.to, .int .u8 wf1.prot, .int .i64 wf1.ino, .int .u64 wf1.off] 25)).heap.size = w.heap.size + 1 := by simp
  have hnew := heap_alloc_new (w.alloc (.cells #[.int .u64 wf1.fr, .int .u64 wf1.to, .int .u8 wf1.prot, .int .i64 wf1.ino, .int .u64 wf1.off] 25)) (.cells #[.int .u64 wf1.fr, .int .u64 wf1.to, .int .u8 wf1.prot, .int .i64 wf1.ino, .int .u64 wf1.off] 25)
  rw [hb0] at hnew
  refine (put_any wf2 _ 1 1 _ [wf1] (RSl.one hnew (by simp)) hok1 hok2).mono ?_
  rintro e w1 ⟨A1, c1, rfl, ho1, hb1⟩
  rw [w_put] at ho1 ⊢
  have hrs := ho1.rsl (by simp [wl3])
  have e3 : wl3.length = 3 := rfl
  simp only [e3] at hrs ⊢
  have hB1 : Below w.heap.size w w1 := by
    have := hb1.size
    simp at this
    ((repeat' (with_reducible (first | assumption | (refine Below.alloc ?_ ?_ _) | (refine Below.setCell ?_ ?_ _) | (refine Below.drew ?_) | (refine below_drewN ?_ _) | exact Below.refl _ _ | (refine Below.trans ?_ (Below.mono (by assumption) ?_))))) <;> (try simp) <;> (try omega))
  have hz1 := hb1.size
  simp at hz1
  clear hnew hb0 ho1 e3 hok1 hok2
  go_wp2_with fail
  refine (find_any A1 3 c1 28672 w1 wl3 hrs).mono ?_
  rintro e w2 ⟨rfl, hb2⟩
  rw [w_find]
  have hz2 := hb2.size
  have hrs2 := (hrs.below hb2 (Nat.le_refl _)).more hz2
  have hrs3 := ((hrs2.below ((Below.refl w2.heap.size w2).alloc (Nat.le_refl _) (.cells #[.int .u64 24576, .int .u64 32768, .int .u8 5, .int .i64 2, .int .u64 8192] 25)) (Nat.le_refl _)).more (B' := (w2.alloc (.cells #[.int .u64 24576, .int .u64 32768, .int .u8 5, .int .i64 2, .int .u64 8192] 25)).heap.size) (by simp))
  go_wp2_with fail
  refine (gap_any A1 3 c1 4096 16384 _ wl3 hrs3 w_ok (by omega) (by omega) (by omega)).mono ?_
  rintro e w3 ⟨rfl, hb3⟩
  rw [w_gap]
  have hz3 := hb3.size
  simp at hz3
  have q4 : w3.cell? ⟨w2.heap.size, 4, none⟩ = some (.int .u64 8192) := (hb3.cell (p := ⟨w2.heap.size, 4, none⟩) (by simp)).trans (by simp)
  have hrs4 := (hrs3.below hb3 (Nat.le_refl _)).more (by simp; omega)
  have hRt := right_any A1 3 c1 w3 wl3 hrs4 w_ok
  rw [w_right] at hRt
  have HR := Lib.hid hRt
  clear hrs hrs2 hrs3 hrs4 hRt
  go_wp2_with (go_at_call 14; refine (HR.out).mono ?_; rintro e w4 ⟨rfl, hb4⟩)
  go_ret
  exact ⟨rfl, by ((repeat' (with_reducible (first | assumption | (refine Below.alloc ?_ ?_ _) | (refine Below.setCell ?_ ?_ _) | (refine Below.drew ?_) | (refine below_drewN ?_ _) | exact Below.refl _ _ | (refine Below.trans ?_ (Below.mono (by assumption) ?_))))) <;> (try simp) <;> (try omega))⟩

end Go.Proofs.Ytdkhgofnhemhmaa
