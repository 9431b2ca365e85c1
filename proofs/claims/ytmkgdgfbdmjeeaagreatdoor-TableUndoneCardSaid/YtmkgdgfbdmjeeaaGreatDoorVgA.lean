/- Files: node, Meta and Read of the one file. The cache's Get. -/
import Derived.Test.YtmkgdgfbdmjeeaaGreatDoorVfB
import Derived.Deep.RegionHeld3
import Derived.Lib.MinMax
import Derived.Test.YtmkgdgfbdmjeeaaGreatDoorCaH

namespace Go.Proofs.YtmkgdgfbdmjeeaaGreatDoor
open Go.RowKit Go.Sort
set_option linter.unusedSimpArgs false
set_option linter.unusedVariables false

theorem FileAt.below {w w' : World} {d x g fs nb c2 cd n : Nat} {dat : Nat → Nat} (h : FileAt w d x g fs nb c2 cd n dat) (hb : Below w.heap.size w w') : FileAt w' d x g fs nb c2 cd n dat := by
  obtain ⟨h1, h2, h3, ⟨m, h4⟩, h5, h6, h7, h8⟩ := h
  exact ⟨(hb.block _ (Array.getElem?_eq_some_iff.1 h1).1).trans h1, (hb.cell h7.1).trans h2, (hb.cell h7.1).trans h3, ⟨m, (hb.block _ (Array.getElem?_eq_some_iff.1 h4).1).trans h4⟩, (hb.block _ (Array.getElem?_eq_some_iff.1 h5).1).trans h5, h6.below hb (fun x hx => by injection hx with hx; subst hx; exact h7.2), ⟨Nat.lt_of_lt_of_le h7.1 hb.size, Nat.lt_of_lt_of_le h7.2 hb.size⟩, h8⟩
theorem fnode_one (d x g fs nb c2 cd n : Nat) (dat : Nat → Nat) (w : World) (h : FileAt w d x g fs nb c2 cd n dat) : Calls Tryz.prog 137 #[.pointer (some ⟨fs, 0, none⟩), .int .i64 1] w fun e w' => e = .returned (.iface 214 (.pointer (some ⟨x, 0, none⟩))) ∧ w' = w := by
  have c0 : w.cell? ⟨fs, 0, none⟩ = some (.slice (some ⟨nb, 0, none⟩) 2 c2) := one_block h.self 0
  have c1 := h.n1
  clear h
  go_enter Tryz.func137, Tryz.ntmps137
  go_wp2_with fail
  go_ret
  exact ⟨rfl, rfl⟩

theorem about_any (x : Nat) (w : World) : Calls Tryz.prog 201 #[.pointer (some ⟨x, 0, none⟩)] w fun e w' => e = .returned (.pointer (some ⟨x, 0, none⟩)) ∧ w' = w := by
  go_enter Tryz.func201, Tryz.ntmps201
  go_wp2_with fail
  go_ret
  exact ⟨rfl, rfl⟩
theorem enter_about (v : Value) (w : World) : (callFunc 201 #[v]).run Tryz.prog w = .ok (.enter 201 #[v]) w := by kernel_rfl
set_option maxRecDepth 100000 in
theorem about_file (x : Nat) (w : World) (n : Nat) (hn : n = Tryz.prog.types.size + Made.depth) : (method n 214 (.pointer (some ⟨x, 0, none⟩)) "hostel/vfs.about").run Tryz.prog w = .ok (201, .pointer (some ⟨x, 0, none⟩)) w := by
  subst hn
  kernel_rfl
set_option maxHeartbeats 1000000 in
set_option maxRecDepth 100000 in
theorem fmeta_one (d x g fs nb c2 cd n : Nat) (dat : Nat → Nat) (w : World) (h : FileAt w d x g fs nb c2 cd n dat) : Calls Tryz.prog 136 #[.pointer (some ⟨fs, 0, none⟩), .int .i64 1] w fun e w' => e = .returned (.tuple #[.agg #[.int .u8 1, .int .u16 420, .int .u32 0, .int .u32 0, .int .i64 (n : Int)], .int .i64 0]) ∧ Below w.heap.size w w' := by
  obtain ⟨w0, hw0⟩ : ∃ w0, w0 = w.alloc (.cells #[.int .u8 0, .int .u16 0, .int .u32 0, .int .u32 0, .int .i64 0] 161) := ⟨_, rfl⟩
  have hb0 : Below w.heap.size w w0 := by rw [hw0]; exact (Below.refl _ _).alloc (Nat.le_refl _) _
  have hM : w0.heap[w.heap.size]? = some (.cells #[.int .u8 0, .int .u16 0, .int .u32 0, .int .u32 0, .int .i64 0] 161 (0, 0)) := by rw [hw0]; exact heap_alloc_new w _
  have hF := h.below hb0
  have x0 : w0.cell? ⟨x, 0, none⟩ = some (.int .u8 1) := one_block hF.file 0
  have x1 : w0.cell? ⟨x, 1, none⟩ = some (.int .u16 420) := one_block hF.file 1
  have x2 : w0.cell? ⟨x, 2, none⟩ = some (.int .u32 0) := one_block hF.file 2
  have x3 : w0.cell? ⟨x, 3, none⟩ = some (.int .u32 0) := one_block hF.file 3
  have x4 : w0.cell? ⟨x, 4, none⟩ = some (.int .i64 (n : Int)) := one_block hF.file 4
  have y0 : w0.cell? ⟨w.heap.size, 0, none⟩ = some (.int .u8 0) := one_block hM 0
  have y1 : w0.cell? ⟨w.heap.size, 1, none⟩ = some (.int .u16 0) := one_block hM 1
  have y2 : w0.cell? ⟨w.heap.size, 2, none⟩ = some (.int .u32 0) := one_block hM 2
  have y3 : w0.cell? ⟨w.heap.size, 3, none⟩ = some (.int .u32 0) := one_block hM 3
  have y4 : w0.cell? ⟨w.heap.size, 4, none⟩ = some (.int .i64 0) := one_block hM 4
  have z0 := one_free hM 0
  have z1 := one_free hM 1
  have z2 := one_free hM 2
  have z3 := one_free hM 3
  have z4 := one_free hM 4
  have hlt := (Array.getElem?_eq_some_iff.1 hM).1
  have HF := Lib.hid hF
  have HW0 := Lib.hid hw0
  clear h hF hw0 hM
  go_enter Tryz.func136, Tryz.ntmps136
  go_upto_region 1 with (fail)
  rw [← HW0.out]
  go_wp2_with (first
    | (go_at_call 137; refine (fnode_one d x g fs nb c2 cd n dat _ HF.out).mono ?_; rintro e w1 ⟨rfl, rfl⟩)
    | fail)
  rw [about_file _ _ _ (by kernel_rfl)]
  simp only [Result.andThen]
  rw [enter_about, Oper.upon_enter]
  refine (about_any x _).mono ?_
  rintro e w2 ⟨rfl, rfl⟩
  go_wp2_with fail
  have hb1 : w.heap.size ≤ w.heap.size := Nat.le_refl _
  exact bodyPost_ret (v := .tuple #[.agg #[.int .u8 1, .int .u16 420, .int .u32 0, .int .u32 0, .int .i64 (n : Int)], .int .i64 0]) (by simp [results, Tryz.results136, go_sem, hlt, y0, y1, y2, y3, y4, z0, z1, z2, z3, z4]) rfl ⟨rfl, ((((hb0.setCell hb1 _).setCell hb1 _).setCell hb1 _).setCell hb1 _).setCell hb1 _⟩

/-- A clone of nothing. -/
theorem clone_none (c : Nat) (ad : Addr) (w : World) : Calls Tryz.prog 131 #[.slice (some ad) 0 c] w fun e w' => ∃ g, e = .returned (.slice (some ⟨g, 0, none⟩) 0 0) ∧ Below w.heap.size w w' := by
  have hnil := fun (W : World) => Lib.run_eql_slice_nil (P := Tryz.prog) (w := W) 107 5 (some ad) 0 c 0 0 Tryz.underlying107
  go_enter Tryz.func131, Tryz.ntmps131
  go_wp2_with fail
  go_ret
  exact ⟨w.heap.size, rfl, (Below.refl _ _).alloc (Nat.le_refl _) _⟩

set_option maxHeartbeats 1000000 in
set_option maxRecDepth 100000 in
theorem fread_one (d x g fs nb c2 cd n off : Nat) (dat : Nat → Nat) (w : World) (h : FileAt w d x g fs nb c2 cd n dat) (hp : off ≤ 65536) (hn : n ≤ 65536) :
    Calls Tryz.prog 104 #[.pointer (some ⟨fs, 0, none⟩), .int .i64 1, .int .i64 (off : Int), .int .i64 4096] w
      fun e w' => ∃ A k cap, e = .returned (.tuple #[.slice (some A) k cap, .int .i64 0]) ∧ k = min 4096 (n - off) ∧ BytesV w' (some A) k (fun i => dat (off + i)) ∧ (0 < k → w.heap.size ≤ A.block) ∧ Below w.heap.size w w' := by
  have hm := fmeta_one d x g fs nb c2 cd n dat w h
  have hfa := fun W => assert_file (.pointer (some ⟨x, 0, none⟩)) W
  have HM := Lib.hid hm
  have HF := Lib.hid h
  clear hm h
  go_enter Tryz.func104, Tryz.ntmps104
  go_wp2_with fail
  refine (HM.out).mono ?_
  rintro e w1 ⟨rfl, hb1⟩
  obtain ⟨w2, hw2⟩ : ∃ w2, w2 = w1.alloc (.cells #[.int .u8 1, .int .u16 420, .int .u32 0, .int .u32 0, .int .i64 (n : Int)] 161) := ⟨_, rfl⟩
  have hb2 : Below w1.heap.size w1 w2 := by rw [hw2]; exact (Below.refl _ _).alloc (Nat.le_refl _) _
  have hM : w2.heap[w1.heap.size]? = some (.cells #[.int .u8 1, .int .u16 420, .int .u32 0, .int .u32 0, .int .i64 (n : Int)] 161 (0, 0)) := by rw [hw2]; exact heap_alloc_new _ _
  have hF2 := (HF.out.below hb1).below hb2
  have x8 : w2.cell? ⟨x, 8, none⟩ = some (.slice (some ⟨g, 0, none⟩) n cd) := one_block hF2.file 8
  have m0 : w2.cell? ⟨w1.heap.size, 0, none⟩ = some (.int .u8 1) := one_block hM 0
  have hbb : Below w.heap.size w w2 := hb1.trans (hb2.mono hb1.size)
  have HF2 := Lib.hid hF2
  have HW2 := Lib.hid hw2
  have HBB := Lib.hid hbb
  clear hF2 hw2 hM hb2 hbb
  have hfit := HF2.out.fits
  by_cases hbig : n ≤ off
  · have i2 : min (off : Int) (n : Int) = (n : Int) := by omega
    have i3 : min (4096 : Int) 0 = 0 := by omega
    go_upto_region 2 with (fail)
    rw [← HW2.out]
    go_wp2_with (first
      | (go_at_call 137; refine (fnode_one d x g fs nb c2 cd n dat _ HF2.out).mono ?_; rintro e w3 ⟨rfl, rfl⟩)
      | fail)
    go_region_held3 (fun w' => w'.cell? ⟨x, 8, none⟩ = some (.slice (some ⟨g, 0, none⟩) n cd)) (go_keep) (fail)
    go_wp2_with fail
    all_goals
      refine (clone_none _ _ _).mono ?_
      rintro e w5 ⟨g5, rfl, hb5⟩
      go_wp2_with fail
      go_ret2
      exact ⟨_, 0, 0, rfl, by omega, fun h => absurd h (by omega), fun h => absurd h (by omega), HBB.out.trans (((Below.refl _ _).drew.trans hb5).mono HBB.out.size)⟩
  · obtain ⟨k, hk⟩ : ∃ k : Nat, k = min 4096 (n - off) := ⟨_, rfl⟩
    have hk0 : 0 < k := by omega
    have i0 : (off : Int) ≤ (n : Int) := by omega
    have i1 : off < cd := by omega
    have i2 : min (off : Int) (n : Int) = (off : Int) := by omega
    have i3 : min (4096 : Int) ((n - off : Nat) : Int) = (k : Int) := by omega
    have i4 : (k : Int) ≤ ((n - off : Nat) : Int) := by omega
    have hA : BytesV w2 (some ⟨g, off, none⟩) k (fun i => dat (off + i)) := by
      intro _
      refine ⟨_, rfl, fun j hj => ?_⟩
      obtain ⟨ad, h1, h2⟩ := HF2.out.data (by omega)
      injection h1 with h1
      subst h1
      have h3 := h2 (off + j) (by omega)
      rw [Addr.add_mid] at h3 ⊢
      rw [Nat.zero_add] at h3
      exact h3
    have HA := Lib.hid hA
    have HK := Lib.hid hk
    clear hA hk
    go_upto_region 2 with (fail)
    rw [← HW2.out]
    go_wp2_with (first
      | (go_at_call 137; refine (fnode_one d x g fs nb c2 cd n dat _ HF2.out).mono ?_; rintro e w3 ⟨rfl, rfl⟩)
      | fail)
    go_region_held3 (fun w' => w'.cell? ⟨x, 8, none⟩ = some (.slice (some ⟨g, 0, none⟩) n cd)) (go_keep) (fail)
    go_wp2_with fail
    have hg9 := HF2.out.low.2
    have hdr : Below w3.heap.size w3 w3.drew := (Below.refl _ _).drew
    refine (clone_any k (cd - off) ⟨g, off, none⟩ (fun i => dat (off + i)) _ hk0 (by omega) (HA.out.below hdr (fun x hx => by injection hx with hx; subst hx; exact hg9)) hg9).mono ?_
    rintro e w5 ⟨g5, cap5, rfl, ho5, hb5⟩
    have hg5 := ho5.form.1
    have hg5' : w.heap.size ≤ g5 := Nat.le_trans HBB.out.size hg5
    have HO5 := Lib.hid ho5
    clear ho5 hg5
    go_wp2_with fail
    go_ret2
    exact ⟨_, k, cap5, rfl, HK.out, HO5.out.v, fun _ => hg5', HBB.out.trans ((hdr.trans hb5).mono HBB.out.size)⟩

end Go.Proofs.YtmkgdgfbdmjeeaaGreatDoor

namespace Go.Proofs.YtmkgdgfbdmjeeaaGreatDoor
open Go.RowKit Go.Sort
set_option linter.unusedSimpArgs false
set_option linter.unusedVariables false

theorem TakeRes.live {p p' : Pool} {L L' : List Slot} {f : Nat} (h : TakeRes p L 0 f p' L') : f < p'.n ∧ p'.cnt f = 1 ∧ p'.dat f = fun _ => 0 := by
  cases h with
  | free f h1 => exact ⟨(lowest_some h1).1, upd_same _ _ _, upd_same _ _ _⟩
  | loose s h1 h2 h3 => exact ⟨h3, upd_same _ _ _, upd_same _ _ _⟩
theorem TakeRes.duo {p p' : Pool} {L L' : List Slot} {r : Int} {f : Nat} (h : TakeRes p L r f p' L') : r = 0 ∨ (r = 4 ∧ f = 0 ∧ p' = p ∧ L' = L) := by
  cases h
  · exact .inl rfl
  · exact .inl rfl
  · exact .inr ⟨rfl, rfl, rfl, rfl⟩
theorem mod_setBlock (w : World) (m : Nat) (o : Obj) : Mod (fun b => b = m) w (Go.ChangeMaps.setBlock w.drew m o) := by
  refine ⟨rfl, rfl, rfl, ?_, fun b hb hne => ?_⟩
  · show w.heap.size ≤ (w.heap.setIfInBounds m o).size
    simp
  · show (w.heap.setIfInBounds m o)[b]? = _
    exact Array.getElem?_setIfInBounds_ne (fun e => hne e.symm)
theorem CacheSelf.tick {w : World} {c a fs m : Nat} {clock v : Int} (h : CacheSelf w c a fs m clock) : CacheSelf (w.setCell ⟨c, 3, none⟩ (.int .i64 v)) c a fs m v := by
  have h1 := Joins.block_setCell (i := 3) h (.int .i64 v)
  simpa [CacheSelf] using h1
theorem CacheAt.c0 {w : World} {S : Nat → Prop} {c a fs m : Nat} {clock : Int} {p : Pool} {L : List Slot} (h : CacheAt w S c a fs m clock p L) : c ≠ 0 := by
  intro e
  subst e
  have h1 := h.pool.tab 0 (by decide)
  have h2 : w.cell? ⟨0, 0, none⟩ = some (.pointer (some ⟨a, 0, none⟩)) := one_block h.self 0
  rw [h2] at h1
  cases h1
theorem BytesV.kept {w w' : World} {n : Nat} {A : Option Addr} {d : Nat → Nat} (h : BytesV w A n d) (hb : Below w.heap.size w w') : BytesV w' A n d := fun h0 => by
  obtain ⟨ad, e, hc⟩ := h h0
  refine ⟨ad, e, fun j hj => ?_⟩
  rw [← hc j hj]
  exact hb.cell (World.block_lt_of_cell? _ _ (hc j hj))
theorem BytesV.mod {w w' : World} {n : Nat} {A : Option Addr} {d : Nat → Nat} {X : Nat → Prop} (h : BytesV w A n d) (hm : Mod X w w') (hA : ∀ ad, A = some ad → 0 < n → ¬ X ad.block) : BytesV w' A n d := fun h0 => by
  obtain ⟨ad, e, hc⟩ := h h0
  refine ⟨ad, e, fun j hj => ?_⟩
  rw [← hc j hj]
  have hl := World.block_lt_of_cell? _ _ (hc j hj)
  have hbk : (ad.add j).block = ad.block := by unfold Addr.add; split <;> rfl
  rw [hbk] at hl
  have hh : w'.heap[(ad.add j).block]? = w.heap[(ad.add j).block]? := by rw [hbk]; exact hm.block _ hl (hA ad e h0)
  exact World.cell?_of_block hh
/-- What the files' Read answers at an offset. -/
def ReadIs (w : World) (fs : Nat) (ino off r0 : Int) (k : Nat) (d : Nat → Nat) : Prop :=
  Calls Tryz.prog 104 #[.pointer (some ⟨fs, 0, none⟩), .int .i64 ino, .int .i64 off, .int .i64 4096] w
    fun e w' => ∃ A cap, e = .returned (.tuple #[.slice A k cap, .int .i64 r0]) ∧ BytesV w' A k d ∧ (∀ ad, A = some ad → 0 < k → w.heap.size ≤ ad.block) ∧ Below w.heap.size w w'
def GetPost (w : World) (S : Nat → Prop) (c a fs m : Nat) (ino page r0 : Int) (k : Nat) (d : Nat → Nat) (clock : Int) (p : Pool) (L : List Slot) (e : Ending) (w' : World) : Prop :=
  ∃ r f p' L' clock' S', e = .returned (.tuple #[.int .i64 (f : Nat), .int .i64 r]) ∧ CacheAt w' S' c a fs m clock' p' L' ∧ Mod (fun b => S b ∨ b = m ∨ b = c) w w' ∧ Out S S' w ∧ GetRes ino page r0 k d p L clock r f p' L' clock'

theorem GetPost.mod {w w3 w' : World} {S : Nat → Prop} {m c bh : Nat} (hb : Below w.heap.size w w3) (hm : Mod (fun b => b = m ∨ b = c ∨ b = bh) w3 w') (hz : w.heap.size ≤ bh) : Mod (fun b => S b ∨ b = m ∨ b = c) w w' := by
  have h1 := (Mod.of (S := fun b => b = m ∨ b = c ∨ b = bh) hb).trans (Out.refl _ _) hm
  exact ⟨h1.os, h1.tape, h1.output, h1.size, fun b hb hn => h1.block b hb (fun e => hn (.inr (by omega)))⟩

theorem GetPost.mod2 {w w3 w4 w5 w6 w' : World} {S S1 : Nat → Prop} {m c bh : Nat} (h3 : Below w.heap.size w w3) (h4 : Mod (Both S m) w3 w4) (ho : Out S S1 w3) (h5 : Mod S1 w4 w5) (h6 : Mod (fun b => b = bh) w5 w6) (h7 : Mod (fun b => b = m ∨ b = c ∨ b = bh) w6 w') (hz : w.heap.size ≤ bh) : Mod (fun b => S b ∨ b = m ∨ b = c) w w' := by
  have hz3 := h3.size
  have h1 : Mod (fun b => S b ∨ b = m ∨ b = c ∨ w.heap.size ≤ b) w w' := (Mod.of h3).trans (Out.refl _ _) ((h4.sub fun b hb => hb.elim .inl fun e => .inr (.inl e)).trans (Out.refl _ _) ((h5.sub fun b hb => (ho b hb).elim .inl fun e => .inr (.inr (.inr (by omega)))).trans (Out.refl _ _) ((h6.sub fun b hb => .inr (.inr (.inr (by omega)))).trans (Out.refl _ _) (h7.sub fun b hb => by
    rcases hb with e | e | e
    · exact .inr (.inl e)
    · exact .inr (.inr (.inl e))
    · exact .inr (.inr (.inr (by omega)))))))
  exact ⟨h1.os, h1.tape, h1.output, h1.size, fun b hb hn => h1.block b hb (fun e => hn (by
    rcases e with e | e | e | e
    · exact .inl e
    · exact .inr (.inl e)
    · exact .inr (.inr e)
    · omega))⟩

set_option maxHeartbeats 1000000 in
theorem get_bad (c a fs m k : Nat) (ino page r0 clock : Int) (d : Nat → Nat) (w : World) (S : Nat → Prop) (p : Pool) (L : List Slot) (h : CacheAt w S c a fs m clock p L) (hbad : page < 0 ∨ 16 ≤ page) :
    Calls Tryz.prog 46 #[.pointer (some ⟨c, 0, none⟩), .int .i64 ino, .int .i64 page] w (GetPost w S c a fs m ino page r0 k d clock p L) := by
  have H := Lib.hid h
  have HB := Lib.hid hbad
  clear h
  by_cases h0 : page < 0
  · clear hbad
    go_enter Tryz.func46, Tryz.ntmps46
    go_wp2_with fail
    go_ret2
    exact ⟨1, 0, p, L, clock, S, rfl, H.out, Mod.refl _ _, Out.refl _ _, .bad HB.out⟩
  · have h1 : 16 ≤ page := by omega
    clear hbad
    go_enter Tryz.func46, Tryz.ntmps46
    go_wp2_with fail
    go_ret2
    exact ⟨1, 0, p, L, clock, S, rfl, H.out, Mod.refl _ _, Out.refl _ _, .bad HB.out⟩

set_option maxHeartbeats 1000000 in
theorem get_err (c a fs m k : Nat) (ino page r0 clock : Int) (d : Nat → Nat) (w : World) (S : Nat → Prop) (p : Pool) (L : List Slot) (h : CacheAt w S c a fs m clock p L) (h0 : 0 ≤ page) (h16 : page < 16) (hrd : ReadIs w fs ino (page * 4096) r0 k d) (hr : (r0 != 0) = true) :
    Calls Tryz.prog 46 #[.pointer (some ⟨c, 0, none⟩), .int .i64 ino, .int .i64 page] w (GetPost w S c a fs m ino page r0 k d clock p L) := by
  have hmul : IntKind.i64.wrap (page * 4096) = page * 4096 := by rw [IntKind.wrap_i64]; omega
  have c1 : w.cell? ⟨c, 1, none⟩ = some (.pointer (some ⟨fs, 0, none⟩)) := one_block h.self 1
  have H := Lib.hid h
  have HRD := Lib.hid hrd
  have HR := Lib.hid hr
  clear h hrd
  go_enter Tryz.func46, Tryz.ntmps46
  go_wp2_with (first
    | (go_at_call 104; refine (HRD.out).mono ?_; rintro e w1 ⟨A, cap, rfl, hA, hAn, hb1⟩; have HB1 := Lib.hid hb1; clear hA hb1)
    | fail)
  go_ret2
  exact ⟨r0, 0, p, L, clock, S, rfl, H.out.below HB1.out, Mod.of HB1.out, Out.refl _ _, .err h0 h16 (by simpa using HR.out)⟩

set_option maxRecDepth 100000 in
set_option maxHeartbeats 4000000 in
theorem get_hit (c a fs m k : Nat) (ino page r0 clock : Int) (d : Nat → Nat) (w : World) (S : Nat → Prop) (p : Pool) (L : List Slot) (h : CacheAt w S c a fs m clock p L) (h0 : 0 ≤ page) (h16 : page < 16) (hiwf : (Lit.int .i64 ino).wf = true) (hrd : ReadIs w fs ino (page * 4096) 0 k d) (hck : 0 ≤ clock ∧ clock < 1000000)
    (s : Slot) (hs : L.find? (Slot.at ino page) = some s) :
    Calls Tryz.prog 46 #[.pointer (some ⟨c, 0, none⟩), .int .i64 ino, .int .i64 page] w (GetPost w S c a fs m ino page 0 k d clock p L) := by
  have hpwf : (Lit.int .i64 page).wf = true := by go_wf2
  have hmul : IntKind.i64.wrap (page * 4096) = page * 4096 := by rw [IntKind.wrap_i64]; omega
  have c1 : w.cell? ⟨c, 1, none⟩ = some (.pointer (some ⟨fs, 0, none⟩)) := one_block h.self 1
  have HRD := Lib.hid hrd
  have H := Lib.hid h
  have HSF := Lib.hid hs
  clear hrd h hs
  go_enter Tryz.func46, Tryz.ntmps46
  go_upto_region 8 with (first
    | (go_at_call 104; refine (HRD.out).mono ?_; rintro e w1 ⟨A, cap, rfl, hA, hAn, hb1⟩; have H1 := Lib.hid (H.out.below hb1); clear hA)
    | fail)
  obtain ⟨w2, hw2⟩ : ∃ w2, w2 = w1.alloc (.cells #[.int .i64 ino, .int .i64 page] 137) := ⟨_, rfl⟩
  have hb2 : Below w1.heap.size w1 w2 := by rw [hw2]; exact (Below.refl _ _).alloc (Nat.le_refl _) _
  have hK2 : w2.heap[w1.heap.size]? = some (.cells #[.int .i64 ino, .int .i64 page] 137 (0, 0)) := by rw [hw2]; exact heap_alloc_new _ _
  have hC2 := H1.out.below hb2
  have k0 : w2.cell? ⟨w1.heap.size, 0, none⟩ = some (.int .i64 ino) := one_block hK2 0
  have k1 : w2.cell? ⟨w1.heap.size, 1, none⟩ = some (.int .i64 page) := one_block hK2 1
  have k2 : w2.cell? ⟨c, 2, none⟩ = some (.map (some m)) := one_block hC2.self 2
  have hlk : ∀ W, W.heap[m]? = w2.heap[m]? → (Instr.lookup 133 (.map (some m)) (.agg #[.int .i64 ino, .int .i64 page]) true).run Tryz.prog W = .ok (.tuple #[.agg #[.int .i64 (s.frame : Int), .int .i64 s.asked], .bool true]) W := by
    intro W hW
    obtain ⟨es0, clk0, his0⟩ := SlotsAt.same (w' := W) hC2.slots hW
    have hlook := his0.look (i := ino) (p := page) hiwf hpwf true
    rw [HSF.out] at hlook
    exact hlook
  have hl1 := hlk w2.drew rfl
  have hl2 := hlk (w2.alloc (.cells #[.int .i64 0, .int .i64 0] 139)).drew (Below.heap_alloc _ _ _ hC2.lts.2.1)
  have HC2 := Lib.hid hC2
  have HK2 := Lib.hid hK2
  have HW2 := Lib.hid hw2
  clear hlk hC2 hK2 hw2
  go_upto_region 9 with (fail)
  rw [← HW2.out]
  go_region_held3 (fun w' => w'.cell? ⟨c, 2, none⟩ = some (.map (some m)) ∧ w'.cell? ⟨w1.heap.size, 0, none⟩ = some (.int .i64 ino) ∧ w'.cell? ⟨w1.heap.size, 1, none⟩ = some (.int .i64 page)) (go_keep) (fail)
  all_goals
    obtain ⟨w3, hw3⟩ : ∃ w3, w3 = (w2.alloc (.cells #[.int .i64 (s.frame : Int), .int .i64 s.asked] 139)).drew := ⟨_, rfl⟩
    rw [← hw3]
    have hb3 : Below w2.heap.size w2 w3 := by rw [hw3]; exact ((Below.refl _ _).alloc (Nat.le_refl _) _).drew
    have hH3 : w3.heap[w2.heap.size]? = some (.cells #[.int .i64 (s.frame : Int), .int .i64 s.asked] 139 (0, 0)) := by rw [hw3]; exact heap_alloc_new w2 _
    have hl2' := HC2.out.lts
    have hlk1 := (Array.getElem?_eq_some_iff.1 HK2.out).1
    have hz1 := hb1.size
    have hz2 := hb2.size
    have hSl := H1.out.pool.low
    have hl1' := H1.out.lts
    obtain ⟨bh, hbh⟩ : ∃ bh, bh = w2.heap.size := ⟨_, rfl⟩
    obtain ⟨bk, hbk⟩ : ∃ bk, bk = w1.heap.size := ⟨_, rfl⟩
    have hK3 : w3.heap[bk]? = some (.cells #[.int .i64 ino, .int .i64 page] 137 (0, 0)) := by (rw [hbk]; exact ((hb3).block _ hlk1).trans HK2.out)
    have hH3' := hH3
    rw [← hbh] at hH3' ⊢
    rw [← hbk]
    have hbc : bh ≠ c := by omega
    have hbm : bh ≠ m := by omega
    have hbkh : bk ≠ bh := by omega
    have hbkc : bk ≠ c := by omega
    have hb00 : bh ≠ 0 := by omega
    have hbS : ¬ S bh := fun e => by (have := hSl _ e; omega)
    have hC3 := HC2.out.below hb3
    have HC3 := Lib.hid hC3
    have HH3 := Lib.hid hH3'
    have HK3 := Lib.hid hK3
    have HB3 := Lib.hid (hb1.trans ((hb2.trans ((hb3).mono hz2)).mono hz1))
    have HZB : w.heap.size ≤ bh := by omega
    have HBH := Lib.hid hbh
    have HBK := Lib.hid hbk
    clear hC3 hH3' hK3 hbh hbk k0 k1 k2 hl1 hl2
    clear hw3
    go_upto_region 16 with (fail)
    have hCt := HC3.out
    have hltc := hCt.lts
    have kc : w3.cell? ⟨c, 3, none⟩ = some (.int .i64 clock) := one_block hCt.self 3
    have kf : w3.frozen? ⟨c, 3, none⟩ = false := one_free hCt.self 3
    have hb0 : w3.cell? ⟨bh, 0, none⟩ = some (.int .i64 (s.frame : Int)) := one_block HH3.out 0
    have hb1 : w3.cell? ⟨bh, 1, none⟩ = some (.int .i64 s.asked) := one_block HH3.out 1
    have hbf : w3.frozen? ⟨bh, 1, none⟩ = false := one_free HH3.out 1
    have hwr : IntKind.i64.wrap (clock + 1) = clock + 1 := by (rw [IntKind.wrap_i64]; omega)
    obtain ⟨w20, hw20⟩ : ∃ w20, w20 = w3.setCell ⟨c, 3, none⟩ (.int .i64 (clock + 1)) := ⟨_, rfl⟩
    have hm20 : Mod (fun b => b = c) w3 w20 := by (rw [hw20]; exact mod_set (S := fun b => b = c) rfl 3 _)
    have hs20 : CacheSelf w20 c a fs m (clock + 1) := (by (rw [hw20]; exact hCt.self.tick))
    have hlb := (Array.getElem?_eq_some_iff.1 HH3.out).1
    have hH20 := (hm20.block bh hlb hbc).trans HH3.out
    have x0 : w20.cell? ⟨bh, 0, none⟩ = some (.int .i64 (s.frame : Int)) := one_block hH20 0
    have x1 : w20.cell? ⟨bh, 1, none⟩ = some (.int .i64 s.asked) := one_block hH20 1
    have x2 : w20.frozen? ⟨bh, 1, none⟩ = false := one_free hH20 1
    have x3 : w20.cell? ⟨c, 3, none⟩ = some (.int .i64 (clock + 1)) := one_block hs20 3
    obtain ⟨w21, hw21⟩ : ∃ w21, w21 = w20.setCell ⟨bh, 1, none⟩ (.int .i64 (clock + 1)) := ⟨_, rfl⟩
    have hm21 : Mod (fun b => b = bh) w20 w21 := by (rw [hw21]; exact mod_set (S := fun b => b = bh) rfl 1 _)
    have hH21 : w21.heap[bh]? = some (.cells #[.int .i64 (s.frame : Int), .int .i64 (clock + 1)] 139 (0, 0)) := by (rw [hw21]; simpa using Joins.block_setCell (i := 1) hH20 (.int .i64 (clock + 1)))
    have hlc20 := (Array.getElem?_eq_some_iff.1 hs20).1
    have hs21 : CacheSelf w21 c a fs m (clock + 1) := (hm21.block c hlc20 (fun e => hbc e.symm)).trans hs20
    have hlk := (Array.getElem?_eq_some_iff.1 HK3.out).1
    have hz20 := hm20.size
    have hz21 := hm21.size
    have hK21 := (hm21.block bk (by omega) hbkh).trans ((hm20.block bk hlk hbkc).trans HK3.out)
    have hsl21 : SlotsAt w21 m L := (hCt.slots.same ((hm21.block m (by omega) (fun e => hbm e.symm)).trans (hm20.block m hltc.2.1 (fun e => hltc.2.2.1 e.symm))))
    obtain ⟨es, clk, his⟩ := SlotsAt.same (w' := w21.drew) hsl21 rfl
    obtain ⟨es', clk', hmu, his'⟩ := his.put (s := ⟨ino, page, s.frame, clock + 1⟩) hiwf hpwf
    obtain ⟨w22, hw22⟩ : ∃ w22, w22 = Go.ChangeMaps.setBlock w21.drew m (.map es' clk') := ⟨_, rfl⟩
    rw [← hw22] at hmu his'
    have hmu' : (Instr.mapUpdate 133 (.map (some m)) (.agg #[.int .i64 ino, .int .i64 page]) (.agg #[.int .i64 (s.frame : Int), .int .i64 (clock + 1)])).run Tryz.prog w21.drew = .ok () w22 := hmu
    have y0 : w21.cell? ⟨c, 2, none⟩ = some (.map (some m)) := one_block hs21 2
    have y1 : w21.cell? ⟨bk, 0, none⟩ = some (.int .i64 ino) := one_block hK21 0
    have y2 : w21.cell? ⟨bk, 1, none⟩ = some (.int .i64 page) := one_block hK21 1
    have y3 : w21.cell? ⟨bh, 0, none⟩ = some (.int .i64 (s.frame : Int)) := one_block hH21 0
    have y4 : w21.cell? ⟨bh, 1, none⟩ = some (.int .i64 (clock + 1)) := one_block hH21 1
    have hm22 : Mod (fun b => b = m) w21 w22 := (by (rw [hw22]; exact mod_setBlock _ _ _))
    have hH22 := (hm22.block bh (by omega) hbm).trans hH21
    have y5 : w22.cell? ⟨bh, 0, none⟩ = some (.int .i64 (s.frame : Int)) := one_block hH22 0
    have hmAll : Mod (fun b => b = m ∨ b = c ∨ b = bh) w3 w22 := ((hm20.sub fun b hb => .inr (.inl hb)).trans (Out.refl _ _) ((hm21.sub fun b hb => .inr (.inr hb)).trans (Out.refl _ _) (hm22.sub fun b hb => .inl hb)))
    have hCe : CacheAt w22 S c a fs m (clock + 1) p (slPut L ⟨ino, page, s.frame, clock + 1⟩) := ⟨hCt.pool.mod hmAll (fun b hb e => by (rcases e with e | e | e; exact hCt.noM (e ▸ hb); exact hCt.noC (e ▸ hb); exact hbS (e ▸ hb))) (fun e => by (have h9 := hCt.c0; rcases e with e | e | e <;> omega)), (hm22.block c (by omega) hltc.2.2.1).trans hs21, ⟨es', clk', his'⟩, hCt.noC, hCt.noM⟩
    have HCE := Lib.hid hCe
    have HMA := Lib.hid hmAll
    have HW20 := Lib.hid hw20
    have HW21 := Lib.hid hw21
    have HW22 := Lib.hid hw22
    clear hCt hs20 hH20 hH21 hs21 hK21 hsl21 his his' hmu hm20 hm21 hm22 hCe hmAll hw20 hw21 hw22 hH22
    go_upto_region 17 with (fail)
    rw [← HW20.out]
    go_upto_region 18 with (fail)
    rw [← HW21.out]
    go_region
    go_wp2_with fail
    all_goals
      go_ret2
      exact ⟨0, s.frame, p, _, clock + 1, S, rfl, HCE.out, GetPost.mod HB3.out HMA.out HZB, Out.refl _ _, .hit s h0 h16 rfl HSF.out⟩

set_option maxRecDepth 100000 in
set_option maxHeartbeats 4000000 in
theorem get_new (c a fs m k : Nat) (ino page r0 clock : Int) (d : Nat → Nat) (w : World) (S : Nat → Prop) (p : Pool) (L : List Slot) (h : CacheAt w S c a fs m clock p L) (h0 : 0 ≤ page) (h16 : page < 16) (hiwf : (Lit.int .i64 ino).wf = true) (hrd : ReadIs w fs ino (page * 4096) 0 k d) (hd : ∀ i, d i < 256) (hk : k ≤ 4096) (hck : 0 ≤ clock ∧ clock < 1000000)
    (hs : L.find? (Slot.at ino page) = none) :
    Calls Tryz.prog 46 #[.pointer (some ⟨c, 0, none⟩), .int .i64 ino, .int .i64 page] w (GetPost w S c a fs m ino page 0 k d clock p L) := by
  have hpwf : (Lit.int .i64 page).wf = true := by go_wf2
  have hmul : IntKind.i64.wrap (page * 4096) = page * 4096 := by rw [IntKind.wrap_i64]; omega
  have c1 : w.cell? ⟨c, 1, none⟩ = some (.pointer (some ⟨fs, 0, none⟩)) := one_block h.self 1
  have HRD := Lib.hid hrd
  have H := Lib.hid h
  have HSF := Lib.hid hs
  clear hrd h hs
  go_enter Tryz.func46, Tryz.ntmps46
  go_upto_region 8 with (first
    | (go_at_call 104; refine (HRD.out).mono ?_; rintro e w1 ⟨A, cap, rfl, hA, hAn, hb1⟩; have HA := Lib.hid hA; have H1 := Lib.hid (H.out.below hb1); clear hA)
    | fail)
  obtain ⟨w2, hw2⟩ : ∃ w2, w2 = w1.alloc (.cells #[.int .i64 ino, .int .i64 page] 137) := ⟨_, rfl⟩
  have hb2 : Below w1.heap.size w1 w2 := by rw [hw2]; exact (Below.refl _ _).alloc (Nat.le_refl _) _
  have hK2 : w2.heap[w1.heap.size]? = some (.cells #[.int .i64 ino, .int .i64 page] 137 (0, 0)) := by rw [hw2]; exact heap_alloc_new _ _
  have hC2 := H1.out.below hb2
  have k0 : w2.cell? ⟨w1.heap.size, 0, none⟩ = some (.int .i64 ino) := one_block hK2 0
  have k1 : w2.cell? ⟨w1.heap.size, 1, none⟩ = some (.int .i64 page) := one_block hK2 1
  have k2 : w2.cell? ⟨c, 2, none⟩ = some (.map (some m)) := one_block hC2.self 2
  have hlk : ∀ W, W.heap[m]? = w2.heap[m]? → (Instr.lookup 133 (.map (some m)) (.agg #[.int .i64 ino, .int .i64 page]) true).run Tryz.prog W = .ok (.tuple #[.agg #[.int .i64 0, .int .i64 0], .bool false]) W := by
    intro W hW
    obtain ⟨es0, clk0, his0⟩ := SlotsAt.same (w' := W) hC2.slots hW
    have hlook := his0.look (i := ino) (p := page) hiwf hpwf true
    rw [HSF.out] at hlook
    exact hlook
  have hl1 := hlk w2.drew rfl
  have hl2 := hlk (w2.alloc (.cells #[.int .i64 0, .int .i64 0] 139)).drew (Below.heap_alloc _ _ _ hC2.lts.2.1)
  have HC2 := Lib.hid hC2
  have HK2 := Lib.hid hK2
  have HW2 := Lib.hid hw2
  clear hlk hC2 hK2 hw2
  go_upto_region 9 with (fail)
  rw [← HW2.out]
  go_region_held3 (fun w' => w'.cell? ⟨c, 2, none⟩ = some (.map (some m)) ∧ w'.cell? ⟨w1.heap.size, 0, none⟩ = some (.int .i64 ino) ∧ w'.cell? ⟨w1.heap.size, 1, none⟩ = some (.int .i64 page)) (go_keep) (fail)
  all_goals
    obtain ⟨w3, hw3⟩ : ∃ w3, w3 = (w2.alloc (.cells #[.int .i64 0, .int .i64 0] 139)).drew := ⟨_, rfl⟩
    rw [← hw3]
    have hb3 : Below w2.heap.size w2 w3 := by rw [hw3]; exact ((Below.refl _ _).alloc (Nat.le_refl _) _).drew
    have hH3 : w3.heap[w2.heap.size]? = some (.cells #[.int .i64 0, .int .i64 0] 139 (0, 0)) := by rw [hw3]; exact heap_alloc_new w2 _
    have hl2' := HC2.out.lts
    have hlk1 := (Array.getElem?_eq_some_iff.1 HK2.out).1
    have hz1 := hb1.size
    have hz2 := hb2.size
    have hSl := H1.out.pool.low
    have hl1' := H1.out.lts
    obtain ⟨bh, hbh⟩ : ∃ bh, bh = w2.heap.size := ⟨_, rfl⟩
    obtain ⟨bk, hbk⟩ : ∃ bk, bk = w1.heap.size := ⟨_, rfl⟩
    have hK3 : w3.heap[bk]? = some (.cells #[.int .i64 ino, .int .i64 page] 137 (0, 0)) := by (rw [hbk]; exact ((hb3).block _ hlk1).trans HK2.out)
    have hH3' := hH3
    rw [← hbh] at hH3' ⊢
    rw [← hbk]
    have hbc : bh ≠ c := by omega
    have hbm : bh ≠ m := by omega
    have hbkh : bk ≠ bh := by omega
    have hbkc : bk ≠ c := by omega
    have hb00 : bh ≠ 0 := by omega
    have hbS : ¬ S bh := fun e => by (have := hSl _ e; omega)
    have hC3 := HC2.out.below hb3
    have HC3 := Lib.hid hC3
    have HH3 := Lib.hid hH3'
    have HK3 := Lib.hid hK3
    have HB3 := Lib.hid (hb1.trans ((hb2.trans ((hb3).mono hz2)).mono hz1))
    have HZB : w.heap.size ≤ bh := by omega
    have HBH := Lib.hid hbh
    have HBK := Lib.hid hbk
    clear hC3 hH3' hK3 hbh hbk k0 k1 k2 hl1 hl2
    have hz3 := hb3.size
    have hA3 : BytesV w3 A k d := HA.out.kept (hb2.trans (hb3.mono hz2))
    have HA3 := Lib.hid hA3
    have hbhw : bh < w3.heap.size := (Array.getElem?_eq_some_iff.1 HH3.out).1
    have hbkw : bk < w3.heap.size := (Array.getElem?_eq_some_iff.1 HK3.out).1
    have hbkS : ¬ S bk := fun e => by have := hSl _ e; have := HBK.out; omega
    have hbkm : bk ≠ m := by have := HBK.out; omega
    have hAk : 0 < k → ∃ ad, A = some ad ∧ ad.block < w1.heap.size := fun h9 => by
      obtain ⟨ad, e9, hc9⟩ := HA.out h9
      exact ⟨ad, e9, by have := World.block_lt_of_cell? _ _ (hc9 0 h9); unfold Addr.add at this; split at this <;> exact this⟩
    clear hw3 hA3
    go_wp2_with fail
    refine (ctake_any c a fs m clock w3 S p L HC3.out).mono ?_
    rintro e w4 ⟨r, f, p1, L1, S1, rfl, hC4, hm4, ho4, hres⟩
    have hz4 := hm4.size
    have HC4 := Lib.hid hC4
    have HRES := Lib.hid hres
    have HM4 := Lib.hid hm4
    have HO4 := Lib.hid ho4
    clear hC4 hm4 ho4
    rcases hres.duo with rfl | ⟨rfl, rfl, rfl, rfl⟩
    rotate_left
    · clear hres
      go_wp2_with fail
      go_ret2
      exact ⟨4, 0, _, _, clock, S1, rfl, HC4.out, GetPost.mod2 HB3.out HM4.out HO4.out (Mod.refl _ _) (Mod.refl _ _) (Mod.refl _ _) HZB, fun b hb => (HO4.out b hb).imp id (fun h => by have := HB3.out.size; omega), .full h0 h16 rfl HSF.out HRES.out⟩
    clear hres
    obtain ⟨f1, f2, f3⟩ := HRES.out.live
    have hbh4 : ¬ Both S m bh := fun e => e.elim hbS hbm
    have hbk4 : ¬ Both S m bk := fun e => e.elim hbkS hbkm
    have hH4 := (HM4.out.block bh hbhw hbh4).trans HH3.out
    have hK4 := (HM4.out.block bk hbkw hbk4).trans HK3.out
    have hS1 : ¬ S1 bh := fun e => (HO4.out bh e).elim hbS (by omega)
    have hS1k : ¬ S1 bk := fun e => (HO4.out bk e).elim hbkS (by omega)
    have hA4 : BytesV w4 A k d := HA3.out.mod HM4.out (fun ad e h9 => by
      have h8 := hAn ad e h9
      exact fun e => e.elim (fun e => by have := H.out.pool.low _ e; omega) (fun e => by have := H.out.lts.2.1; omega))
    have HA4 := Lib.hid hA4
    have HH4 := Lib.hid hH4
    have HK4 := Lib.hid hK4
    clear hA4 hH4 hK4 f3 hAk
    have e0 : w4.cell? ⟨c, 0, none⟩ = some (.pointer (some ⟨a, 0, none⟩)) := one_block HC4.out.self 0
    go_upto_region 16 with (first
      | (go_at_call 105; refine (store_yes a f 0 k cap A d w4 S1 p1 HC4.out.pool f1 (Nat.le_of_eq f2.symm) (by omega) (by omega) HA4.out hd).mono ?_; rintro e w5 ⟨rfl, hP5, hm5⟩; have HC5 := Lib.hid (HC4.out.turn hm5 hP5 (Out.refl _ _)); have HM5 := Lib.hid hm5; have hH5 := (hm5.block bh (by omega) hS1).trans HH4.out; have hK5 := (hm5.block bk (by omega) hS1k).trans HK4.out; have HH5 := Lib.hid hH5; have HK5 := Lib.hid hK5; have g0 := one_block hH5 0; have g1 := one_free hH5 0; clear hP5 hm5 hH5 hK5)
      | fail)
    obtain ⟨w6, hw6⟩ : ∃ w6, w6 = w5.setCell ⟨bh, 0, none⟩ (.int .i64 (f : Int)) := ⟨_, rfl⟩
    rw [← hw6]
    have hm6 : Mod (fun b => b = bh) w5 w6 := by rw [hw6]; exact mod_set (S := fun b => b = bh) rfl 0 _
    have hH6 : w6.heap[bh]? = some (.cells #[.int .i64 (f : Int), .int .i64 0] 139 (0, 0)) := by rw [hw6]; simpa using Joins.block_setCell (i := 0) HH5.out (.int .i64 (f : Int))
    have hz5 := HM5.out.size
    have hK6 := (hm6.block bk (by omega) hbkh).trans HK5.out
    have hc0 := HC5.out.c0
    have HC6 := Lib.hid (HC5.out.mod hm6 (fun b hb e => hS1 (e ▸ hb)) (fun e => hb00 e.symm) (fun e => hbc e.symm) (fun e => hbm e.symm))
    have HH6 := Lib.hid hH6
    have HK6 := Lib.hid hK6
    have HM6 := Lib.hid hm6
    clear hw6 hm6 hH6 hK6 g0 g1 e0 hbS
    have hbS := hS1
    obtain ⟨p2, hp2⟩ : ∃ p2, p2 = p1.store f (laid (p1.dat f) d 0 k) := ⟨_, rfl⟩
    rw [← hp2] at HC6
    have HP2 := Lib.hid hp2
    clear hp2
    have hCt := HC6.out
    have hltc := hCt.lts
    have kc : w6.cell? ⟨c, 3, none⟩ = some (.int .i64 clock) := one_block hCt.self 3
    have kf : w6.frozen? ⟨c, 3, none⟩ = false := one_free hCt.self 3
    have hb0 : w6.cell? ⟨bh, 0, none⟩ = some (.int .i64 (f : Int)) := one_block HH6.out 0
    have hb1 : w6.cell? ⟨bh, 1, none⟩ = some (.int .i64 0) := one_block HH6.out 1
    have hbf : w6.frozen? ⟨bh, 1, none⟩ = false := one_free HH6.out 1
    have hwr : IntKind.i64.wrap (clock + 1) = clock + 1 := by (rw [IntKind.wrap_i64]; omega)
    obtain ⟨w20, hw20⟩ : ∃ w20, w20 = w6.setCell ⟨c, 3, none⟩ (.int .i64 (clock + 1)) := ⟨_, rfl⟩
    have hm20 : Mod (fun b => b = c) w6 w20 := by (rw [hw20]; exact mod_set (S := fun b => b = c) rfl 3 _)
    have hs20 : CacheSelf w20 c a fs m (clock + 1) := (by (rw [hw20]; exact hCt.self.tick))
    have hlb := (Array.getElem?_eq_some_iff.1 HH6.out).1
    have hH20 := (hm20.block bh hlb hbc).trans HH6.out
    have x0 : w20.cell? ⟨bh, 0, none⟩ = some (.int .i64 (f : Int)) := one_block hH20 0
    have x1 : w20.cell? ⟨bh, 1, none⟩ = some (.int .i64 0) := one_block hH20 1
    have x2 : w20.frozen? ⟨bh, 1, none⟩ = false := one_free hH20 1
    have x3 : w20.cell? ⟨c, 3, none⟩ = some (.int .i64 (clock + 1)) := one_block hs20 3
    obtain ⟨w21, hw21⟩ : ∃ w21, w21 = w20.setCell ⟨bh, 1, none⟩ (.int .i64 (clock + 1)) := ⟨_, rfl⟩
    have hm21 : Mod (fun b => b = bh) w20 w21 := by (rw [hw21]; exact mod_set (S := fun b => b = bh) rfl 1 _)
    have hH21 : w21.heap[bh]? = some (.cells #[.int .i64 (f : Int), .int .i64 (clock + 1)] 139 (0, 0)) := by (rw [hw21]; simpa using Joins.block_setCell (i := 1) hH20 (.int .i64 (clock + 1)))
    have hlc20 := (Array.getElem?_eq_some_iff.1 hs20).1
    have hs21 : CacheSelf w21 c a fs m (clock + 1) := (hm21.block c hlc20 (fun e => hbc e.symm)).trans hs20
    have hlk := (Array.getElem?_eq_some_iff.1 HK6.out).1
    have hz20 := hm20.size
    have hz21 := hm21.size
    have hK21 := (hm21.block bk (by omega) hbkh).trans ((hm20.block bk hlk hbkc).trans HK6.out)
    have hsl21 : SlotsAt w21 m L1 := (hCt.slots.same ((hm21.block m (by omega) (fun e => hbm e.symm)).trans (hm20.block m hltc.2.1 (fun e => hltc.2.2.1 e.symm))))
    obtain ⟨es, clk, his⟩ := SlotsAt.same (w' := w21.drew) hsl21 rfl
    obtain ⟨es', clk', hmu, his'⟩ := his.put (s := ⟨ino, page, f, clock + 1⟩) hiwf hpwf
    obtain ⟨w22, hw22⟩ : ∃ w22, w22 = Go.ChangeMaps.setBlock w21.drew m (.map es' clk') := ⟨_, rfl⟩
    rw [← hw22] at hmu his'
    have hmu' : (Instr.mapUpdate 133 (.map (some m)) (.agg #[.int .i64 ino, .int .i64 page]) (.agg #[.int .i64 (f : Int), .int .i64 (clock + 1)])).run Tryz.prog w21.drew = .ok () w22 := hmu
    have y0 : w21.cell? ⟨c, 2, none⟩ = some (.map (some m)) := one_block hs21 2
    have y1 : w21.cell? ⟨bk, 0, none⟩ = some (.int .i64 ino) := one_block hK21 0
    have y2 : w21.cell? ⟨bk, 1, none⟩ = some (.int .i64 page) := one_block hK21 1
    have y3 : w21.cell? ⟨bh, 0, none⟩ = some (.int .i64 (f : Int)) := one_block hH21 0
    have y4 : w21.cell? ⟨bh, 1, none⟩ = some (.int .i64 (clock + 1)) := one_block hH21 1
    have hm22 : Mod (fun b => b = m) w21 w22 := (by (rw [hw22]; exact mod_setBlock _ _ _))
    have hH22 := (hm22.block bh (by omega) hbm).trans hH21
    have y5 : w22.cell? ⟨bh, 0, none⟩ = some (.int .i64 (f : Int)) := one_block hH22 0
    have hmAll : Mod (fun b => b = m ∨ b = c ∨ b = bh) w6 w22 := ((hm20.sub fun b hb => .inr (.inl hb)).trans (Out.refl _ _) ((hm21.sub fun b hb => .inr (.inr hb)).trans (Out.refl _ _) (hm22.sub fun b hb => .inl hb)))
    have hCe : CacheAt w22 S1 c a fs m (clock + 1) p2 (slPut L1 ⟨ino, page, f, clock + 1⟩) := ⟨hCt.pool.mod hmAll (fun b hb e => by (rcases e with e | e | e; exact hCt.noM (e ▸ hb); exact hCt.noC (e ▸ hb); exact hbS (e ▸ hb))) (fun e => by (have h9 := hCt.c0; rcases e with e | e | e <;> omega)), (hm22.block c (by omega) hltc.2.2.1).trans hs21, ⟨es', clk', his'⟩, hCt.noC, hCt.noM⟩
    have HCE := Lib.hid hCe
    have HMA := Lib.hid hmAll
    have HW20 := Lib.hid hw20
    have HW21 := Lib.hid hw21
    have HW22 := Lib.hid hw22
    clear hCt hs20 hH20 hH21 hs21 hK21 hsl21 his his' hmu hm20 hm21 hm22 hCe hmAll hw20 hw21 hw22 hH22
    go_upto_region 17 with (fail)
    rw [← HW20.out]
    go_upto_region 18 with (fail)
    rw [← HW21.out]
    go_region
    go_wp2_with fail
    all_goals
      go_ret2
      exact ⟨0, f, p2, _, clock + 1, S1, rfl, HCE.out, GetPost.mod2 HB3.out HM4.out HO4.out HM5.out HM6.out HMA.out HZB, fun b hb => (HO4.out b hb).imp id (fun h => by have := HB3.out.size; omega), by rw [HP2.out]; exact .miss f p1 L1 h0 h16 rfl HSF.out HRES.out⟩

end Go.Proofs.YtmkgdgfbdmjeeaaGreatDoor
