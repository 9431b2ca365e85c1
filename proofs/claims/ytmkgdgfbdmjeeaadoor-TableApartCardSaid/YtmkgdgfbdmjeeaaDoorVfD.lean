/- Files: New of the one file. -/
import Derived.Test.YtmkgdgfbdmjeeaaDoorVfC
import Derived.Test.YtmkgdgfbdmjeeaaDoorTfG
import Derived.OwnWalk
namespace Go.Proofs.YtmkgdgfbdmjeeaaDoor
open Go.RowKit Go.Sort
set_option linter.unusedSimpArgs false
set_option linter.unusedVariables false

/-- Files that lie behind block fs. -/
def FilesAt (w : World) (fs n : Nat) (dat : Nat → Nat) : Prop := ∃ d x g nb c2 cd, FileAt w d x g fs nb c2 cd n dat
/-- All of a file system's blocks lie from base on. -/
def FilesIn (w : World) (base fs n : Nat) (dat : Nat → Nat) : Prop := ∃ d x g nb c2 cd, FileAt w d x g fs nb c2 cd n dat ∧ base ≤ d ∧ base ≤ x ∧ base ≤ g ∧ base ≤ nb ∧ base ≤ fs

def VNewPost (w : World) (n : Nat) (dat : Nat → Nat) (e : Ending) (w' : World) : Prop :=
  ∃ fs, e = .returned (.tuple #[.pointer (some ⟨fs, 0, none⟩), .int .i64 0, .int .i64 0]) ∧ FilesAt w' fs n dat ∧ Below w.heap.size w w'
set_option maxRecDepth 100000 in
set_option maxHeartbeats 2000000 in
theorem vnew_a (b n c : Nat) (ad : Addr) (dat : Nat → Nat) (w : World) (hb : w.heap[b]? = some (.cells #[.string ⟨#[47, 97]⟩, .int .u8 1, .int .u16 420, .int .u32 0, .int .u32 0, .slice (some ad) n c, .string ⟨#[]⟩] 156 (0, 0))) (hA : BytesV w (some ad) n dat) (had : ad.block < w.heap.size) (hn0 : 0 < n) (hn : n ≤ 65536) :
    Calls Tryd.prog 38 #[.slice (some ⟨b, 0, none⟩) 1 1] w (VNewPost w n dat) := by
  have hlt := (Array.getElem?_eq_some_iff.1 hb).1
  obtain ⟨w0, hw0⟩ : ∃ w0, w0 = ((((w.alloc (.map #[] 0)).alloc (.cells #[.int .u8 2, .int .u16 493, .int .u32 0, .int .u32 0, .int .i64 0, .int .i64 0, .pointer (some ⟨w.heap.size + 1, 0, none⟩), .string ⟨#[]⟩, .map (some w.heap.size)] 151)).alloc (.cells #[.iface 146 (.pointer (some ⟨w.heap.size + 1, 0, none⟩))] 164)).alloc (.cells #[.slice (some ⟨w.heap.size + 1 + 1, 0, none⟩) 1 1] 154)) := ⟨_, rfl⟩
  have hz0 : w0.heap.size = w.heap.size + 1 + 1 + 1 + 1 := by rw [hw0]; simp
  have hb0 : Below w.heap.size w w0 := by
    rw [hw0]
    exact ((((Below.refl _ _).alloc (Nat.le_refl _) _).alloc (by simp) _).alloc (by simp; omega) _).alloc (by simp; omega) _
  have hT : TopAt w0 w.heap.size (w.heap.size + 1) (w.heap.size + 1 + 1) (w.heap.size + 1 + 1 + 1) := by
    rw [hw0]
    exact ⟨hp0, hp1, hp2, hp3⟩
  have hT0 := Lib.hid hT
  have hA0 := hA.below hb0 (fun x hx => by injection hx with hx; subst hx; exact had)
  have hE0 := (hb0.block b hlt).trans hb
  have e0 : w0.cell? ⟨b, 0, none⟩ = some (.string ⟨#[47, 97]⟩) := one_block hE0 0
  have e1 : w0.cell? ⟨b, 1, none⟩ = some (.int .u8 1) := one_block hE0 1
  have e2 : w0.cell? ⟨b, 2, none⟩ = some (.int .u16 420) := one_block hE0 2
  have e3 : w0.cell? ⟨b, 3, none⟩ = some (.int .u32 0) := one_block hE0 3
  have e4 : w0.cell? ⟨b, 4, none⟩ = some (.int .u32 0) := one_block hE0 4
  have e5 : w0.cell? ⟨b, 5, none⟩ = some (.slice (some ad) n c) := one_block hE0 5
  have e6 : w0.cell? ⟨b, 6, none⟩ = some (.string ⟨#[]⟩) := one_block hE0 6
  have HW0 := Lib.hid hw0
  have HB0 := Lib.hid hb0
  have HA0 := Lib.hid hA0
  have hmm := @run_makeMap Tryd.prog
  clear hb hA hT hA0 hE0 hb0 hw0
  go_enter Tryd.func38, Tryd.ntmps38
  go_upto_region 6 with (fail)
  rw [← HW0.out]
  go_wp2_with fail
  go_loopw [30] (fun i wr => (i = .int .i64 0 ∧ wr = w0) ∨ (i = .int .i64 1 ∧ FilesAt wr (w.heap.size + 1 + 1 + 1) n dat ∧ Below w.heap.size w wr)) (fun i _ => 1 - (intOf i).toNat)
  case atStart => exact .inl ⟨rfl, rfl⟩
  case round =>
    rcases hrel with ⟨rfl, rfl⟩ | ⟨rfl, hF, hbe⟩
    · have hf0 := (Below.refl wr.heap.size wr).alloc (Nat.le_refl _) (.cells #[.string ⟨#[47, 97]⟩, .int .u8 1, .int .u16 420, .int .u32 0, .int .u32 0, .slice (some ad) n c, .string ⟨#[]⟩] 156)
      have hadd := vadd_a w.heap.size (w.heap.size + 1) (w.heap.size + 1 + 1) (w.heap.size + 1 + 1 + 1) n c ad dat _ (hT0.out.below hf0) (HA0.out.below hf0 (fun x hx => by injection hx with hx; subst hx; omega)) (by simp; omega) hn0 hn
      have HADD := Lib.hid hadd
      have HF0 := Lib.hid hf0
      clear hadd hf0
      go_wp2_with (first
        | (go_at_call 80; refine (HADD.out).mono ?_; rintro e w2 ⟨rfl, x, g, nb2, c2, cd, hF2, hm2⟩; have HF2 := Lib.hid hF2; have HM2 := Lib.hid hm2; clear hF2 hm2)
        | fail)
      go_roundw
      case rel =>
        refine .inr ⟨by go_num, ⟨_, _, _, _, _, _, HF2.out⟩, ?_⟩
        exact ((Mod.of (HB0.out.trans (HF0.out.mono (by omega)))).trans (Out.refl _ _) HM2.out).below (fun b hb => by omega) (Nat.le_refl _)
      case measure => simp [intOf]
    · have HF := Lib.hid hF
      clear hF
      go_wp2_with fail
      go_ret3
      exact ⟨_, rfl, HF.out, hbe⟩

end Go.Proofs.YtmkgdgfbdmjeeaaDoor
