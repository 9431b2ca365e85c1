/- The statements' file of three pages. -/
import Derived.Test.YtmkgdgfbdmjeeaaDoorTwB
namespace Go.Proofs.YtmkgdgfbdmjeeaaDoor
open Go.RowKit Go.Sort
set_option linter.unusedSimpArgs false
set_option linter.unusedVariables false

def fileDat (i : Nat) : Nat := i / 4096 + 1
def FilePost (w : World) (e : Ending) (w' : World) : Prop := ∃ b g, e = .returned (.slice (some ⟨b, 0, none⟩) 1 1) ∧
  w'.heap[b]? = some (.cells #[.string ⟨#[47, 97]⟩, .int .u8 1, .int .u16 420, .int .u32 0, .int .u32 0, .slice (some ⟨g, 0, none⟩) 8201 8201, .string ⟨#[]⟩] 156 (0, 0)) ∧
  BytesV w' (some ⟨g, 0, none⟩) 8201 fileDat ∧ g < w'.heap.size ∧ Below w.heap.size w w'
set_option maxRecDepth 100000 in
set_option maxHeartbeats 2000000 in
theorem file_any (w : World) : Calls Tryd.prog 53 #[] w (FilePost w) := by
  have hmk := make_bytes 8201 (by omega) w
  obtain ⟨N, hN⟩ : ∃ N : Nat, N = 8201 := ⟨_, rfl⟩
  have h0 : (w.alloc (.cells (rowV 8201 fun _ => .int .u8 0) 5)).heap[w.heap.size]? = some (.cells (rowV N fun j => .int .u8 ((if j < 0 then fileDat j else 0 : Nat) : Int)) 5 (0, 0)) := by
    rw [hN]
    exact heap_alloc_new w _
  have hb0 : Below w.heap.size w (w.alloc (.cells (rowV 8201 fun _ => .int .u8 0) 5)) := (Below.refl _ _).alloc (Nat.le_refl _) _
  obtain ⟨w0, hw0⟩ : ∃ w0, w0 = w.alloc (.cells (rowV 8201 fun _ => .int .u8 0) 5) := ⟨_, rfl⟩
  rw [← hw0] at h0 hb0 hmk
  have HN := Lib.hid hN
  have H0 := Lib.hid h0
  clear hN h0 hw0
  have hmk' : (Instr.makeSlice 93 (.int .i64 8201) (.int .i64 8201)).run Tryd.prog w = .ok (.slice (some ⟨w.heap.size, 0, none⟩) 8201 8201) w0 := hmk
  clear hmk
  go_enter Tryd.func53, Tryd.ntmps53
  go_wp2_with fail
  go_loopw [2] (fun i wr => ∃ k : Nat, i = .int .i64 (k : Int) ∧ k ≤ 8201 ∧ wr.heap[w.heap.size]? = some (.cells (rowV N fun j => .int .u8 ((if j < k then fileDat j else 0 : Nat) : Int)) 5 (0, 0)) ∧ Below w.heap.size w wr) (fun i _ => 8201 - (intOf i).toNat)
  case atStart => exact ⟨0, rfl, by omega, H0.out, hb0⟩
  case round =>
    obtain ⟨k, rfl, hk, hrow, hbe⟩ := hrel
    have HR := Lib.hid hrow
    have HBE := Lib.hid hbe
    clear hrow hbe
    by_cases hlt : k < 8201
    · have c1 : wr.cell? ⟨w.heap.size, k, none⟩ = some (.int .u8 ((if k < k then fileDat k else 0 : Nat) : Int)) := row_cell HR.out (by rw [HN.out]; omega)
      have c2 : wr.frozen? ⟨w.heap.size, k, none⟩ = false := one_free HR.out k
      go_wp2_with fail
      go_roundw
      case rel =>
        refine ⟨k + 1, by go_num, by omega, ?_, Below.setCell HBE.out (show w.heap.size ≤ (⟨w.heap.size, k, none⟩ : Addr).block from Nat.le_refl _) _⟩
        have h1 := Joins.block_setCell (i := k) HR.out (.int .u8 ((k : Int) / 4096 + 1))
        rw [rowV_set] at h1
        rw [h1]
        congr 2
        refine rowV_congr fun j hj => ?_
        by_cases e : j = k
        · subst e
          rw [upd_same, if_pos (by omega)]
          unfold fileDat
          congr 1
        · rw [upd_ne _ _ e]
          by_cases c : j < k
          · rw [if_pos c, if_pos (by omega)]
          · rw [if_neg c, if_neg (by omega)]
      case measure => (simp [intOf]; omega)
    · obtain rfl : k = 8201 := by omega
      have hlt2 := (Array.getElem?_eq_some_iff.1 HR.out).1
      go_wp2_with fail
      go_ret
      have hbe := HBE.out
      have hrow := HR.out
      have hn := HN.out
      subst hn
      have hb2 := (Below.refl wr.heap.size wr).alloc (Nat.le_refl _) (.cells #[.string ⟨#[47, 97]⟩, .int .u8 1, .int .u16 420, .int .u32 0, .int .u32 0, .slice (some ⟨w.heap.size, 0, none⟩) 8201 8201, .string ⟨#[]⟩] 156)
      refine ⟨wr.heap.size, w.heap.size, rfl, heap_alloc_new wr _, ?_, by simp; omega, hbe.alloc hbe.size _⟩
      intro _
      refine ⟨_, rfl, fun j hj => ?_⟩
      rw [Addr.add_mid, Nat.zero_add, hb2.cell hlt2, row_cell hrow hj, if_pos hj]

end Go.Proofs.YtmkgdgfbdmjeeaaDoor
