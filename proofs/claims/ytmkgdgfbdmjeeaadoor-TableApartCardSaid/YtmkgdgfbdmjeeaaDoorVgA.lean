/- Files: node, Meta and Read of the one file. -/
import Derived.Test.YtmkgdgfbdmjeeaaDoorVfD
import Derived.Deep.RegionHeld3
import Derived.Lib.MinMax
namespace Go.Proofs.YtmkgdgfbdmjeeaaDoor
open Go.RowKit Go.Sort
set_option linter.unusedSimpArgs false
set_option linter.unusedVariables false

theorem FileAt.below {w w' : World} {d x g fs nb c2 cd n : Nat} {dat : Nat → Nat} (h : FileAt w d x g fs nb c2 cd n dat) (hb : Below w.heap.size w w') : FileAt w' d x g fs nb c2 cd n dat := by
  obtain ⟨h1, h2, h3, ⟨m, h4⟩, h5, h6, h7, h8⟩ := h
  exact ⟨(hb.block _ (Array.getElem?_eq_some_iff.1 h1).1).trans h1, (hb.cell h7.1).trans h2, (hb.cell h7.1).trans h3, ⟨m, (hb.block _ (Array.getElem?_eq_some_iff.1 h4).1).trans h4⟩, (hb.block _ (Array.getElem?_eq_some_iff.1 h5).1).trans h5, h6.below hb (fun x hx => by injection hx with hx; subst hx; exact h7.2), ⟨Nat.lt_of_lt_of_le h7.1 hb.size, Nat.lt_of_lt_of_le h7.2 hb.size⟩, h8⟩
theorem fnode_one (d x g fs nb c2 cd n : Nat) (dat : Nat → Nat) (w : World) (h : FileAt w d x g fs nb c2 cd n dat) : Calls Tryd.prog 86 #[.pointer (some ⟨fs, 0, none⟩), .int .i64 1] w fun e w' => e = .returned (.iface 168 (.pointer (some ⟨x, 0, none⟩))) ∧ w' = w := by
  have c0 : w.cell? ⟨fs, 0, none⟩ = some (.slice (some ⟨nb, 0, none⟩) 2 c2) := one_block h.self 0
  have c1 := h.n1
  clear h
  go_enter Tryd.func86, Tryd.ntmps86
  go_wp2_with fail
  go_ret
  exact ⟨rfl, rfl⟩

theorem about_any (x : Nat) (w : World) : Calls Tryd.prog 156 #[.pointer (some ⟨x, 0, none⟩)] w fun e w' => e = .returned (.pointer (some ⟨x, 0, none⟩)) ∧ w' = w := by
  go_enter Tryd.func156, Tryd.ntmps156
  go_wp2_with fail
  go_ret
  exact ⟨rfl, rfl⟩
theorem enter_about (v : Value) (w : World) : (callFunc 156 #[v]).run Tryd.prog w = .ok (.enter 156 #[v]) w := by kernel_rfl
set_option maxRecDepth 100000 in
theorem about_file (x : Nat) (w : World) (n : Nat) (hn : n = Tryd.prog.types.size + Made.depth) : (method n 168 (.pointer (some ⟨x, 0, none⟩)) "hostel/vfs.about").run Tryd.prog w = .ok (156, .pointer (some ⟨x, 0, none⟩)) w := by
  subst hn
  kernel_rfl
set_option maxHeartbeats 1000000 in
set_option maxRecDepth 100000 in
theorem fmeta_one (d x g fs nb c2 cd n : Nat) (dat : Nat → Nat) (w : World) (h : FileAt w d x g fs nb c2 cd n dat) : Calls Tryd.prog 51 #[.pointer (some ⟨fs, 0, none⟩), .int .i64 1] w fun e w' => e = .returned (.tuple #[.agg #[.int .u8 1, .int .u16 420, .int .u32 0, .int .u32 0, .int .i64 (n : Int)], .int .i64 0]) ∧ Below w.heap.size w w' := by
  obtain ⟨w0, hw0⟩ : ∃ w0, w0 = w.alloc (.cells #[.int .u8 0, .int .u16 0, .int .u32 0, .int .u32 0, .int .i64 0] 106) := ⟨_, rfl⟩
  have hb0 : Below w.heap.size w w0 := by rw [hw0]; exact (Below.refl _ _).alloc (Nat.le_refl _) _
  have hM : w0.heap[w.heap.size]? = some (.cells #[.int .u8 0, .int .u16 0, .int .u32 0, .int .u32 0, .int .i64 0] 106 (0, 0)) := by rw [hw0]; exact heap_alloc_new w _
  have hF := h.below hb0
  have x0 : w0.cell? ⟨x, 0, none⟩ = some (.int .u8 1) := one_block hF.file 0
  have x1 : w0.cell? ⟨x, 1, none⟩ = some (.int .u16 420) := one_block hF.file 1
  have x2 : w0.cell? ⟨x, 2, none⟩ = some (.int .u32 0) := one_block hF.file 2
  have x3 : w0.cell? ⟨x, 3, none⟩ = some (.int .u32 0) := one_block hF.file 3
  have x4 : w0.cell? ⟨x, 4, none⟩ = some (.int .i64 (n : Int)) := one_block hF.file 4
  have y0 : w0.cell? ⟨w.heap.size, 0, none⟩ = some (.int .u8 0) := one_block hM 0
  have y1 : w0.cell? ⟨w.heap.size, 1, none⟩ = some (.int .u16 0) := one_block hM 1
  have y2 : w0.cell? ⟨w.heap.size, 2, none⟩ = some (.int .u32 0) := one_block hM 2
  have y3 : w0.cell? ⟨w.heap.size, 3, none⟩ = some (.int .u32 0) := one_block hM 3
  have y4 : w0.cell? ⟨w.heap.size, 4, none⟩ = some (.int .i64 0) := one_block hM 4
  have z0 := one_free hM 0
  have z1 := one_free hM 1
  have z2 := one_free hM 2
  have z3 := one_free hM 3
  have z4 := one_free hM 4
  have hlt := (Array.getElem?_eq_some_iff.1 hM).1
  have HF := Lib.hid hF
  have HW0 := Lib.hid hw0
  clear h hF hw0 hM
  go_enter Tryd.func51, Tryd.ntmps51
  go_upto_region 1 with (fail)
  rw [← HW0.out]
  go_wp2_with (first
    | (go_at_call 86; refine (fnode_one d x g fs nb c2 cd n dat _ HF.out).mono ?_; rintro e w1 ⟨rfl, rfl⟩)
    | fail)
  rw [about_file _ _ _ (by kernel_rfl)]
  simp only [Result.andThen]
  rw [enter_about, Oper.upon_enter]
  refine (about_any x _).mono ?_
  rintro e w2 ⟨rfl, rfl⟩
  go_wp2_with fail
  have hb1 : w.heap.size ≤ w.heap.size := Nat.le_refl _
  exact bodyPost_ret (v := .tuple #[.agg #[.int .u8 1, .int .u16 420, .int .u32 0, .int .u32 0, .int .i64 (n : Int)], .int .i64 0]) (by simp [results, Tryd.results51, go_sem, hlt, y0, y1, y2, y3, y4, z0, z1, z2, z3, z4]) rfl ⟨rfl, ((((hb0.setCell hb1 _).setCell hb1 _).setCell hb1 _).setCell hb1 _).setCell hb1 _⟩

/-- A clone of nothing. -/
theorem clone_none (c : Nat) (ad : Addr) (w : World) : Calls Tryd.prog 87 #[.slice (some ad) 0 c] w fun e w' => ∃ g, e = .returned (.slice (some ⟨g, 0, none⟩) 0 0) ∧ Below w.heap.size w w' := by
  have hnil := fun (W : World) => Lib.run_eql_slice_nil (P := Tryd.prog) (w := W) 93 5 (some ad) 0 c 0 0 Tryd.underlying93
  go_enter Tryd.func87, Tryd.ntmps87
  go_wp2_with fail
  go_ret
  exact ⟨w.heap.size, rfl, (Below.refl _ _).alloc (Nat.le_refl _) _⟩

set_option maxHeartbeats 1000000 in
set_option maxRecDepth 100000 in
theorem fread_one (d x g fs nb c2 cd n off : Nat) (dat : Nat → Nat) (w : World) (h : FileAt w d x g fs nb c2 cd n dat) (hp : off ≤ 65536) (hn : n ≤ 65536) :
    Calls Tryd.prog 52 #[.pointer (some ⟨fs, 0, none⟩), .int .i64 1, .int .i64 (off : Int), .int .i64 4096] w
      fun e w' => ∃ A k cap, e = .returned (.tuple #[.slice (some A) k cap, .int .i64 0]) ∧ k = min 4096 (n - off) ∧ BytesV w' (some A) k (fun i => dat (off + i)) ∧ (0 < k → w.heap.size ≤ A.block) ∧ Below w.heap.size w w' := by
  have hm := fmeta_one d x g fs nb c2 cd n dat w h
  have hfa := fun W => assert_file (.pointer (some ⟨x, 0, none⟩)) W
  have HM := Lib.hid hm
  have HF := Lib.hid h
  clear hm h
  go_enter Tryd.func52, Tryd.ntmps52
  go_wp2_with fail
  refine (HM.out).mono ?_
  rintro e w1 ⟨rfl, hb1⟩
  obtain ⟨w2, hw2⟩ : ∃ w2, w2 = w1.alloc (.cells #[.int .u8 1, .int .u16 420, .int .u32 0, .int .u32 0, .int .i64 (n : Int)] 106) := ⟨_, rfl⟩
  have hb2 : Below w1.heap.size w1 w2 := by rw [hw2]; exact (Below.refl _ _).alloc (Nat.le_refl _) _
  have hM : w2.heap[w1.heap.size]? = some (.cells #[.int .u8 1, .int .u16 420, .int .u32 0, .int .u32 0, .int .i64 (n : Int)] 106 (0, 0)) := by rw [hw2]; exact heap_alloc_new _ _
  have hF2 := (HF.out.below hb1).below hb2
  have x8 : w2.cell? ⟨x, 8, none⟩ = some (.slice (some ⟨g, 0, none⟩) n cd) := one_block hF2.file 8
  have m0 : w2.cell? ⟨w1.heap.size, 0, none⟩ = some (.int .u8 1) := one_block hM 0
  have hbb : Below w.heap.size w w2 := hb1.trans (hb2.mono hb1.size)
  have HF2 := Lib.hid hF2
  have HW2 := Lib.hid hw2
  have HBB := Lib.hid hbb
  clear hF2 hw2 hM hb2 hbb
  have hfit := HF2.out.fits
  by_cases hbig : n ≤ off
  · have i2 : min (off : Int) (n : Int) = (n : Int) := by omega
    have i3 : min (4096 : Int) 0 = 0 := by omega
    go_upto_region 2 with (fail)
    rw [← HW2.out]
    go_wp2_with (first
      | (go_at_call 86; refine (fnode_one d x g fs nb c2 cd n dat _ HF2.out).mono ?_; rintro e w3 ⟨rfl, rfl⟩)
      | fail)
    go_region_held3 (fun w' => w'.cell? ⟨x, 8, none⟩ = some (.slice (some ⟨g, 0, none⟩) n cd)) (go_keep) (fail)
    go_wp2_with fail
    all_goals
      refine (clone_none _ _ _).mono ?_
      rintro e w5 ⟨g5, rfl, hb5⟩
      go_wp2_with fail
      go_ret2
      exact ⟨_, 0, 0, rfl, by omega, fun h => absurd h (by omega), fun h => absurd h (by omega), HBB.out.trans (((Below.refl _ _).drew.trans hb5).mono HBB.out.size)⟩
  · obtain ⟨k, hk⟩ : ∃ k : Nat, k = min 4096 (n - off) := ⟨_, rfl⟩
    have hk0 : 0 < k := by omega
    have i0 : (off : Int) ≤ (n : Int) := by omega
    have i1 : off < cd := by omega
    have i2 : min (off : Int) (n : Int) = (off : Int) := by omega
    have i3 : min (4096 : Int) ((n - off : Nat) : Int) = (k : Int) := by omega
    have i4 : (k : Int) ≤ ((n - off : Nat) : Int) := by omega
    have hA : BytesV w2 (some ⟨g, off, none⟩) k (fun i => dat (off + i)) := by
      intro _
      refine ⟨_, rfl, fun j hj => ?_⟩
      obtain ⟨ad, h1, h2⟩ := HF2.out.data (by omega)
      injection h1 with h1
      subst h1
      have h3 := h2 (off + j) (by omega)
      rw [Addr.add_mid] at h3 ⊢
      rw [Nat.zero_add] at h3
      exact h3
    have HA := Lib.hid hA
    have HK := Lib.hid hk
    clear hA hk
    go_upto_region 2 with (fail)
    rw [← HW2.out]
    go_wp2_with (first
      | (go_at_call 86; refine (fnode_one d x g fs nb c2 cd n dat _ HF2.out).mono ?_; rintro e w3 ⟨rfl, rfl⟩)
      | fail)
    go_region_held3 (fun w' => w'.cell? ⟨x, 8, none⟩ = some (.slice (some ⟨g, 0, none⟩) n cd)) (go_keep) (fail)
    go_wp2_with fail
    have hg9 := HF2.out.low.2
    have hdr : Below w3.heap.size w3 w3.drew := (Below.refl _ _).drew
    refine (clone_any k (cd - off) ⟨g, off, none⟩ (fun i => dat (off + i)) _ hk0 (by omega) (HA.out.below hdr (fun x hx => by injection hx with hx; subst hx; exact hg9)) hg9).mono ?_
    rintro e w5 ⟨g5, cap5, rfl, ho5, hb5⟩
    have hg5 := ho5.form.1
    have hg5' : w.heap.size ≤ g5 := Nat.le_trans HBB.out.size hg5
    have HO5 := Lib.hid ho5
    clear ho5 hg5
    go_wp2_with fail
    go_ret2
    exact ⟨_, k, cap5, rfl, HK.out, HO5.out.v, fun _ => hg5', HBB.out.trans ((hdr.trans hb5).mono HBB.out.size)⟩

end Go.Proofs.YtmkgdgfbdmjeeaaDoor
