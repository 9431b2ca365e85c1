/- Files: node, Meta and Read of the one file. The cache's Get. Files: a clone of any bytes; add of what may not be. Files: add of what is there, or has no directory. Files: add of a new node. Files: add of anything; New of any entries. Files at any number: node, Meta, Read. Files: Read at any number and place. -/
import Derived.Test.YtkkmcnngpahfaaaGreatDoorVpY
import Derived.Deep.RegionHeld3
import Derived.Lib.MinMax
import Derived.Test.YtkkmcnngpahfaaaGreatDoorCaZ

namespace Go.Proofs.YtkkmcnngpahfaaaGreatDoor
open Go.RowKit Go.Sort
set_option linter.unusedSimpArgs false
set_option linter.unusedVariables false

theorem FileAt.below {w w' : World} {d x g fs nb c2 cd n : Nat} {dat : Nat → Nat} (h : FileAt w d x g fs nb c2 cd n dat) (hb : Below w.heap.size w w') : FileAt w' d x g fs nb c2 cd n dat := by
  obtain ⟨h1, h2, h3, ⟨m, h4⟩, h5, h6, h7, h8⟩ := h
  exact ⟨(hb.block _ (Array.getElem?_eq_some_iff.1 h1).1).trans h1, (hb.cell h7.1).trans h2, (hb.cell h7.1).trans h3, ⟨m, (hb.block _ (Array.getElem?_eq_some_iff.1 h4).1).trans h4⟩, (hb.block _ (Array.getElem?_eq_some_iff.1 h5).1).trans h5, h6.below hb (fun x hx => by injection hx with hx; subst hx; exact h7.2), ⟨Nat.lt_of_lt_of_le h7.1 hb.size, Nat.lt_of_lt_of_le h7.2 hb.size⟩, h8⟩
theorem fnode_one (d x g fs nb c2 cd n : Nat) (dat : Nat → Nat) (w : World) (h : FileAt w d x g fs nb c2 cd n dat) : Calls Tryz.prog 130 #[.pointer (some ⟨fs, 0, none⟩), .int .i64 1] w fun e w' => e = .returned (.iface 210 (.pointer (some ⟨x, 0, none⟩))) ∧ w' = w := by
  have c0 : w.cell? ⟨fs, 0, none⟩ = some (.slice (some ⟨nb, 0, none⟩) 2 c2) := one_block h.self 0
  have c1 := h.n1
  clear h
  go_enter Tryz.func130, Tryz.ntmps130
  go_wp2_with fail
  go_ret
  exact ⟨rfl, rfl⟩

theorem about_any (x : Nat) (w : World) : Calls Tryz.prog 196 #[.pointer (some ⟨x, 0, none⟩)] w fun e w' => e = .returned (.pointer (some ⟨x, 0, none⟩)) ∧ w' = w := by
  go_enter Tryz.func196, Tryz.ntmps196
  go_wp2_with fail
  go_ret
  exact ⟨rfl, rfl⟩
theorem enter_about (v : Value) (w : World) : (callFunc 196 #[v]).run Tryz.prog w = .ok (.enter 196 #[v]) w := by kernel_rfl
set_option maxRecDepth 100000 in
theorem about_file (x : Nat) (w : World) (n : Nat) (hn : n = Tryz.prog.types.size + Made.depth) : (method n 210 (.pointer (some ⟨x, 0, none⟩)) "hostel/vfs.about").run Tryz.prog w = .ok (196, .pointer (some ⟨x, 0, none⟩)) w := by
  subst hn
  kernel_rfl
set_option maxHeartbeats 1000000 in
set_option maxRecDepth 100000 in
theorem fmeta_one (d x g fs nb c2 cd n : Nat) (dat : Nat → Nat) (w : World) (h : FileAt w d x g fs nb c2 cd n dat) : Calls Tryz.prog 129 #[.pointer (some ⟨fs, 0, none⟩), .int .i64 1] w fun e w' => e = .returned (.tuple #[.agg #[.int .u8 1, .int .u16 420, .int .u32 0, .int .u32 0, .int .i64 (n : Int)], .int .i64 0]) ∧ Below w.heap.size w w' := by
  obtain ⟨w0, hw0⟩ : ∃ w0, w0 = w.alloc (.cells #[.int .u8 0, .int .u16 0, .int .u32 0, .int .u32 0, .int .i64 0] 145) := ⟨_, rfl⟩
  have hb0 : Below w.heap.size w w0 := by rw [hw0]; exact (Below.refl _ _).alloc (Nat.le_refl _) _
  have hM : w0.heap[w.heap.size]? = some (.cells #[.int .u8 0, .int .u16 0, .int .u32 0, .int .u32 0, .int .i64 0] 145 (0, 0)) := by rw [hw0]; exact heap_alloc_new w _
  have hF := h.below hb0
  have x0 : w0.cell? ⟨x, 0, none⟩ = some (.int .u8 1) := one_block hF.file 0
  have x1 : w0.cell? ⟨x, 1, none⟩ = some (.int .u16 420) := one_block hF.file 1
  have x2 : w0.cell? ⟨x, 2, none⟩ = some (.int .u32 0) := one_block hF.file 2
  have x3 : w0.cell? ⟨x, 3, none⟩ = some (.int .u32 0) := one_block hF.file 3
  have x4 : w0.cell? ⟨x, 4, none⟩ = some (.int .i64 (n : Int)) := one_block hF.file 4
  have y0 : w0.cell? ⟨w.heap.size, 0, none⟩ = some (.int .u8 0) := one_block hM 0
  have y1 : w0.cell? ⟨w.heap.size, 1, none⟩ = some (.int .u16 0) := one_block hM 1
  have y2 : w0.cell? ⟨w.heap.size, 2, none⟩ = some (.int .u32 0) := one_block hM 2
  have y3 : w0.cell? ⟨w.heap.size, 3, none⟩ = some (.int .u32 0) := one_block hM 3
  have y4 : w0.cell? ⟨w.heap.size, 4, none⟩ = some (.int .i64 0) := one_block hM 4
  have z0 := one_free hM 0
  have z1 := one_free hM 1
  have z2 := one_free hM 2
  have z3 := one_free hM 3
  have z4 := one_free hM 4
  have hlt := (Array.getElem?_eq_some_iff.1 hM).1
  have HF := Lib.hid hF
  have HW0 := Lib.hid hw0
  clear h hF hw0 hM
  go_enter Tryz.func129, Tryz.ntmps129
  go_upto_region 1 with (fail)
  rw [← HW0.out]
  go_wp2_with (first
    | (go_at_call 130; refine (fnode_one d x g fs nb c2 cd n dat _ HF.out).mono ?_; rintro e w1 ⟨rfl, rfl⟩)
    | fail)
  rw [about_file _ _ _ (by kernel_rfl)]
  simp only [Result.andThen]
  rw [enter_about, Oper.upon_enter]
  refine (about_any x _).mono ?_
  rintro e w2 ⟨rfl, rfl⟩
  go_wp2_with fail
  have hb1 : w.heap.size ≤ w.heap.size := Nat.le_refl _
  exact bodyPost_ret (v := .tuple #[.agg #[.int .u8 1, .int .u16 420, .int .u32 0, .int .u32 0, .int .i64 (n : Int)], .int .i64 0]) (by simp [results, Tryz.results129, go_sem, hlt, y0, y1, y2, y3, y4, z0, z1, z2, z3, z4]) rfl ⟨rfl, ((((hb0.setCell hb1 _).setCell hb1 _).setCell hb1 _).setCell hb1 _).setCell hb1 _⟩

/-- A clone of nothing. -/
theorem clone_none (c : Nat) (ad : Addr) (w : World) : Calls Tryz.prog 124 #[.slice (some ad) 0 c] w fun e w' => ∃ g, e = .returned (.slice (some ⟨g, 0, none⟩) 0 0) ∧ Below w.heap.size w w' := by
  have hnil := fun (W : World) => Lib.run_eql_slice_nil (P := Tryz.prog) (w := W) 99 5 (some ad) 0 c 0 0 Tryz.underlying99
  go_enter Tryz.func124, Tryz.ntmps124
  go_wp2_with fail
  go_ret
  exact ⟨w.heap.size, rfl, (Below.refl _ _).alloc (Nat.le_refl _) _⟩

set_option maxHeartbeats 1000000 in
set_option maxRecDepth 100000 in
theorem fread_one (d x g fs nb c2 cd n off : Nat) (dat : Nat → Nat) (w : World) (h : FileAt w d x g fs nb c2 cd n dat) (hp : off ≤ 65536) (hn : n ≤ 65536) :
    Calls Tryz.prog 92 #[.pointer (some ⟨fs, 0, none⟩), .int .i64 1, .int .i64 (off : Int), .int .i64 4096] w
      fun e w' => ∃ A k cap, e = .returned (.tuple #[.slice (some A) k cap, .int .i64 0]) ∧ k = min 4096 (n - off) ∧ BytesV w' (some A) k (fun i => dat (off + i)) ∧ (0 < k → w.heap.size ≤ A.block) ∧ Below w.heap.size w w' := by
  have hm := fmeta_one d x g fs nb c2 cd n dat w h
  have hfa := fun W => assert_file (.pointer (some ⟨x, 0, none⟩)) W
  have HM := Lib.hid hm
  have HF := Lib.hid h
  clear hm h
  go_enter Tryz.func92, Tryz.ntmps92
  go_wp2_with fail
  refine (HM.out).mono ?_
  rintro e w1 ⟨rfl, hb1⟩
  obtain ⟨w2, hw2⟩ : ∃ w2, w2 = w1.alloc (.cells #[.int .u8 1, .int .u16 420, .int .u32 0, .int .u32 0, .int .i64 (n : Int)] 145) := ⟨_, rfl⟩
  have hb2 : Below w1.heap.size w1 w2 := by rw [hw2]; exact (Below.refl _ _).alloc (Nat.le_refl _) _
  have hM : w2.heap[w1.heap.size]? = some (.cells #[.int .u8 1, .int .u16 420, .int .u32 0, .int .u32 0, .int .i64 (n : Int)] 145 (0, 0)) := by rw [hw2]; exact heap_alloc_new _ _
  have hF2 := (HF.out.below hb1).below hb2
  have x8 : w2.cell? ⟨x, 8, none⟩ = some (.slice (some ⟨g, 0, none⟩) n cd) := one_block hF2.file 8
  have m0 : w2.cell? ⟨w1.heap.size, 0, none⟩ = some (.int .u8 1) := one_block hM 0
  have hbb : Below w.heap.size w w2 := hb1.trans (hb2.mono hb1.size)
  have HF2 := Lib.hid hF2
  have HW2 := Lib.hid hw2
  have HBB := Lib.hid hbb
  clear hF2 hw2 hM hb2 hbb
  have hfit := HF2.out.fits
  by_cases hbig : n ≤ off
  · have i2 : min (off : Int) (n : Int) = (n : Int) := by omega
    have i3 : min (4096 : Int) 0 = 0 := by omega
    go_upto_region 2 with (fail)
    rw [← HW2.out]
    go_wp2_with (first
      | (go_at_call 130; refine (fnode_one d x g fs nb c2 cd n dat _ HF2.out).mono ?_; rintro e w3 ⟨rfl, rfl⟩)
      | fail)
    go_region_held3 (fun w' => w'.cell? ⟨x, 8, none⟩ = some (.slice (some ⟨g, 0, none⟩) n cd)) (go_keep) (fail)
    go_wp2_with fail
    all_goals
      refine (clone_none _ _ _).mono ?_
      rintro e w5 ⟨g5, rfl, hb5⟩
      go_wp2_with fail
      go_ret2
      exact ⟨_, 0, 0, rfl, by omega, fun h => absurd h (by omega), fun h => absurd h (by omega), HBB.out.trans (((Below.refl _ _).drew.trans hb5).mono HBB.out.size)⟩
  · obtain ⟨k, hk⟩ : ∃ k : Nat, k = min 4096 (n - off) := ⟨_, rfl⟩
    have hk0 : 0 < k := by omega
    have i0 : (off : Int) ≤ (n : Int) := by omega
    have i1 : off < cd := by omega
    have i2 : min (off : Int) (n : Int) = (off : Int) := by omega
    have i3 : min (4096 : Int) ((n - off : Nat) : Int) = (k : Int) := by omega
    have i4 : (k : Int) ≤ ((n - off : Nat) : Int) := by omega
    have hA : BytesV w2 (some ⟨g, off, none⟩) k (fun i => dat (off + i)) := by
      intro _
      refine ⟨_, rfl, fun j hj => ?_⟩
      obtain ⟨ad, h1, h2⟩ := HF2.out.data (by omega)
      injection h1 with h1
      subst h1
      have h3 := h2 (off + j) (by omega)
      rw [Addr.add_mid] at h3 ⊢
      rw [Nat.zero_add] at h3
      exact h3
    have HA := Lib.hid hA
    have HK := Lib.hid hk
    clear hA hk
    go_upto_region 2 with (fail)
    rw [← HW2.out]
    go_wp2_with (first
      | (go_at_call 130; refine (fnode_one d x g fs nb c2 cd n dat _ HF2.out).mono ?_; rintro e w3 ⟨rfl, rfl⟩)
      | fail)
    go_region_held3 (fun w' => w'.cell? ⟨x, 8, none⟩ = some (.slice (some ⟨g, 0, none⟩) n cd)) (go_keep) (fail)
    go_wp2_with fail
    have hg9 := HF2.out.low.2
    have hdr : Below w3.heap.size w3 w3.drew := (Below.refl _ _).drew
    refine (clone_any k (cd - off) ⟨g, off, none⟩ (fun i => dat (off + i)) _ hk0 (by omega) (HA.out.below hdr (fun x hx => by injection hx with hx; subst hx; exact hg9)) hg9).mono ?_
    rintro e w5 ⟨g5, cap5, rfl, ho5, hb5⟩
    have hg5 := ho5.form.1
    have hg5' : w.heap.size ≤ g5 := Nat.le_trans HBB.out.size hg5
    have HO5 := Lib.hid ho5
    clear ho5 hg5
    go_wp2_with fail
    go_ret2
    exact ⟨_, k, cap5, rfl, HK.out, HO5.out.v, fun _ => hg5', HBB.out.trans ((hdr.trans hb5).mono HBB.out.size)⟩

end Go.Proofs.YtkkmcnngpahfaaaGreatDoor

namespace Go.Proofs.YtkkmcnngpahfaaaGreatDoor
open Go.RowKit Go.Sort
set_option linter.unusedSimpArgs false
set_option linter.unusedVariables false

theorem TakeRes.live {p p' : Pool} {L L' : List Slot} {f : Nat} (h : TakeRes p L 0 f p' L') : f < p'.n ∧ p'.cnt f = 1 ∧ p'.dat f = fun _ => 0 := by
  cases h with
  | free f h1 => exact ⟨(lowest_some h1).1, upd_same _ _ _, upd_same _ _ _⟩
  | loose s h1 h2 h3 => exact ⟨h3, upd_same _ _ _, upd_same _ _ _⟩
theorem TakeRes.duo {p p' : Pool} {L L' : List Slot} {r : Int} {f : Nat} (h : TakeRes p L r f p' L') : r = 0 ∨ (r = 4 ∧ f = 0 ∧ p' = p ∧ L' = L) := by
  cases h
  · exact .inl rfl
  · exact .inl rfl
  · exact .inr ⟨rfl, rfl, rfl, rfl⟩
theorem mod_setBlock (w : World) (m : Nat) (o : Obj) : Mod (fun b => b = m) w (Go.ChangeMaps.setBlock w.drew m o) := by
  refine ⟨rfl, rfl, rfl, ?_, fun b hb hne => ?_⟩
  · show w.heap.size ≤ (w.heap.setIfInBounds m o).size
    simp
  · show (w.heap.setIfInBounds m o)[b]? = _
    exact Array.getElem?_setIfInBounds_ne (fun e => hne e.symm)
theorem CacheSelf.tick {w : World} {c a fs m : Nat} {clock v : Int} (h : CacheSelf w c a fs m clock) : CacheSelf (w.setCell ⟨c, 3, none⟩ (.int .i64 v)) c a fs m v := by
  have h1 := Joins.block_setCell (i := 3) h (.int .i64 v)
  simpa [CacheSelf] using h1
theorem CacheAt.c0 {w : World} {S : Nat → Prop} {c a fs m : Nat} {clock : Int} {p : Pool} {L : List Slot} (h : CacheAt w S c a fs m clock p L) : c ≠ 0 := by
  intro e
  subst e
  have h1 := h.pool.tab 0 (by decide)
  have h2 : w.cell? ⟨0, 0, none⟩ = some (.pointer (some ⟨a, 0, none⟩)) := one_block h.self 0
  rw [h2] at h1
  cases h1
theorem BytesV.kept {w w' : World} {n : Nat} {A : Option Addr} {d : Nat → Nat} (h : BytesV w A n d) (hb : Below w.heap.size w w') : BytesV w' A n d := fun h0 => by
  obtain ⟨ad, e, hc⟩ := h h0
  refine ⟨ad, e, fun j hj => ?_⟩
  rw [← hc j hj]
  exact hb.cell (World.block_lt_of_cell? _ _ (hc j hj))
theorem BytesV.mod {w w' : World} {n : Nat} {A : Option Addr} {d : Nat → Nat} {X : Nat → Prop} (h : BytesV w A n d) (hm : Mod X w w') (hA : ∀ ad, A = some ad → 0 < n → ¬ X ad.block) : BytesV w' A n d := fun h0 => by
  obtain ⟨ad, e, hc⟩ := h h0
  refine ⟨ad, e, fun j hj => ?_⟩
  rw [← hc j hj]
  have hl := World.block_lt_of_cell? _ _ (hc j hj)
  have hbk : (ad.add j).block = ad.block := by unfold Addr.add; split <;> rfl
  rw [hbk] at hl
  have hh : w'.heap[(ad.add j).block]? = w.heap[(ad.add j).block]? := by rw [hbk]; exact hm.block _ hl (hA ad e h0)
  exact World.cell?_of_block hh
/-- What the files' Read answers at an offset. -/
def ReadIs (w : World) (fs : Nat) (ino off r0 : Int) (k : Nat) (d : Nat → Nat) : Prop :=
  Calls Tryz.prog 92 #[.pointer (some ⟨fs, 0, none⟩), .int .i64 ino, .int .i64 off, .int .i64 4096] w
    fun e w' => ∃ A cap, e = .returned (.tuple #[.slice A k cap, .int .i64 r0]) ∧ BytesV w' A k d ∧ (∀ ad, A = some ad → 0 < k → w.heap.size ≤ ad.block) ∧ Below w.heap.size w w'
def GetPost (w : World) (S : Nat → Prop) (c a fs m : Nat) (ino page r0 : Int) (k : Nat) (d : Nat → Nat) (clock : Int) (p : Pool) (L : List Slot) (e : Ending) (w' : World) : Prop :=
  ∃ r f p' L' clock' S', e = .returned (.tuple #[.int .i64 (f : Nat), .int .i64 r]) ∧ CacheAt w' S' c a fs m clock' p' L' ∧ Mod (fun b => S b ∨ b = m ∨ b = c) w w' ∧ Out S S' w ∧ GetRes ino page r0 k d p L clock r f p' L' clock'

theorem GetPost.mod {w w3 w' : World} {S : Nat → Prop} {m c bh : Nat} (hb : Below w.heap.size w w3) (hm : Mod (fun b => b = m ∨ b = c ∨ b = bh) w3 w') (hz : w.heap.size ≤ bh) : Mod (fun b => S b ∨ b = m ∨ b = c) w w' := by
  have h1 := (Mod.of (S := fun b => b = m ∨ b = c ∨ b = bh) hb).trans (Out.refl _ _) hm
  exact ⟨h1.os, h1.tape, h1.output, h1.size, fun b hb hn => h1.block b hb (fun e => hn (.inr (by omega)))⟩

theorem GetPost.mod2 {w w3 w4 w5 w6 w' : World} {S S1 : Nat → Prop} {m c bh : Nat} (h3 : Below w.heap.size w w3) (h4 : Mod (Both S m) w3 w4) (ho : Out S S1 w3) (h5 : Mod S1 w4 w5) (h6 : Mod (fun b => b = bh) w5 w6) (h7 : Mod (fun b => b = m ∨ b = c ∨ b = bh) w6 w') (hz : w.heap.size ≤ bh) : Mod (fun b => S b ∨ b = m ∨ b = c) w w' := by
  have hz3 := h3.size
  have h1 : Mod (fun b => S b ∨ b = m ∨ b = c ∨ w.heap.size ≤ b) w w' := (Mod.of h3).trans (Out.refl _ _) ((h4.sub fun b hb => hb.elim .inl fun e => .inr (.inl e)).trans (Out.refl _ _) ((h5.sub fun b hb => (ho b hb).elim .inl fun e => .inr (.inr (.inr (by omega)))).trans (Out.refl _ _) ((h6.sub fun b hb => .inr (.inr (.inr (by omega)))).trans (Out.refl _ _) (h7.sub fun b hb => by
    rcases hb with e | e | e
    · exact .inr (.inl e)
    · exact .inr (.inr (.inl e))
    · exact .inr (.inr (.inr (by omega)))))))
  exact ⟨h1.os, h1.tape, h1.output, h1.size, fun b hb hn => h1.block b hb (fun e => hn (by
    rcases e with e | e | e | e
    · exact .inl e
    · exact .inr (.inl e)
    · exact .inr (.inr e)
    · omega))⟩

set_option maxHeartbeats 1000000 in
theorem get_bad (c a fs m k : Nat) (ino page r0 clock : Int) (d : Nat → Nat) (w : World) (S : Nat → Prop) (p : Pool) (L : List Slot) (h : CacheAt w S c a fs m clock p L) (hbad : page < 0 ∨ 16 ≤ page) :
    Calls Tryz.prog 35 #[.pointer (some ⟨c, 0, none⟩), .int .i64 ino, .int .i64 page] w (GetPost w S c a fs m ino page r0 k d clock p L) := by
  have H := Lib.hid h
  have HB := Lib.hid hbad
  clear h
  by_cases h0 : page < 0
  · clear hbad
    go_enter Tryz.func35, Tryz.ntmps35
    go_wp2_with fail
    go_ret2
    exact ⟨1, 0, p, L, clock, S, rfl, H.out, Mod.refl _ _, Out.refl _ _, .bad HB.out⟩
  · have h1 : 16 ≤ page := by omega
    clear hbad
    go_enter Tryz.func35, Tryz.ntmps35
    go_wp2_with fail
    go_ret2
    exact ⟨1, 0, p, L, clock, S, rfl, H.out, Mod.refl _ _, Out.refl _ _, .bad HB.out⟩

set_option maxHeartbeats 1000000 in
theorem get_err (c a fs m k : Nat) (ino page r0 clock : Int) (d : Nat → Nat) (w : World) (S : Nat → Prop) (p : Pool) (L : List Slot) (h : CacheAt w S c a fs m clock p L) (h0 : 0 ≤ page) (h16 : page < 16) (hrd : ReadIs w fs ino (page * 4096) r0 k d) (hr : (r0 != 0) = true) :
    Calls Tryz.prog 35 #[.pointer (some ⟨c, 0, none⟩), .int .i64 ino, .int .i64 page] w (GetPost w S c a fs m ino page r0 k d clock p L) := by
  have hmul : IntKind.i64.wrap (page * 4096) = page * 4096 := by rw [IntKind.wrap_i64]; omega
  have c1 : w.cell? ⟨c, 1, none⟩ = some (.pointer (some ⟨fs, 0, none⟩)) := one_block h.self 1
  have H := Lib.hid h
  have HRD := Lib.hid hrd
  have HR := Lib.hid hr
  clear h hrd
  go_enter Tryz.func35, Tryz.ntmps35
  go_wp2_with (first
    | (go_at_call 92; refine (HRD.out).mono ?_; rintro e w1 ⟨A, cap, rfl, hA, hAn, hb1⟩; have HB1 := Lib.hid hb1; clear hA hb1)
    | fail)
  go_ret2
  exact ⟨r0, 0, p, L, clock, S, rfl, H.out.below HB1.out, Mod.of HB1.out, Out.refl _ _, .err h0 h16 (by simpa using HR.out)⟩

set_option maxRecDepth 100000 in
set_option maxHeartbeats 4000000 in
theorem get_hit (c a fs m k : Nat) (ino page r0 clock : Int) (d : Nat → Nat) (w : World) (S : Nat → Prop) (p : Pool) (L : List Slot) (h : CacheAt w S c a fs m clock p L) (h0 : 0 ≤ page) (h16 : page < 16) (hiwf : (Lit.int .i64 ino).wf = true) (hrd : ReadIs w fs ino (page * 4096) 0 k d) (hck : 0 ≤ clock ∧ clock < 1000000)
    (s : Slot) (hs : L.find? (Slot.at ino page) = some s) :
    Calls Tryz.prog 35 #[.pointer (some ⟨c, 0, none⟩), .int .i64 ino, .int .i64 page] w (GetPost w S c a fs m ino page 0 k d clock p L) := by
  have hpwf : (Lit.int .i64 page).wf = true := by go_wf2
  have hmul : IntKind.i64.wrap (page * 4096) = page * 4096 := by rw [IntKind.wrap_i64]; omega
  have c1 : w.cell? ⟨c, 1, none⟩ = some (.pointer (some ⟨fs, 0, none⟩)) := one_block h.self 1
  have HRD := Lib.hid hrd
  have H := Lib.hid h
  have HSF := Lib.hid hs
  clear hrd h hs
  go_enter Tryz.func35, Tryz.ntmps35
  go_upto_region 8 with (first
    | (go_at_call 92; refine (HRD.out).mono ?_; rintro e w1 ⟨A, cap, rfl, hA, hAn, hb1⟩; have H1 := Lib.hid (H.out.below hb1); clear hA)
    | fail)
  obtain ⟨w2, hw2⟩ : ∃ w2, w2 = w1.alloc (.cells #[.int .i64 ino, .int .i64 page] 177) := ⟨_, rfl⟩
  have hb2 : Below w1.heap.size w1 w2 := by rw [hw2]; exact (Below.refl _ _).alloc (Nat.le_refl _) _
  have hK2 : w2.heap[w1.heap.size]? = some (.cells #[.int .i64 ino, .int .i64 page] 177 (0, 0)) := by rw [hw2]; exact heap_alloc_new _ _
  have hC2 := H1.out.below hb2
  have k0 : w2.cell? ⟨w1.heap.size, 0, none⟩ = some (.int .i64 ino) := one_block hK2 0
  have k1 : w2.cell? ⟨w1.heap.size, 1, none⟩ = some (.int .i64 page) := one_block hK2 1
  have k2 : w2.cell? ⟨c, 2, none⟩ = some (.map (some m)) := one_block hC2.self 2
  have hlk : ∀ W, W.heap[m]? = w2.heap[m]? → (Instr.lookup 155 (.map (some m)) (.agg #[.int .i64 ino, .int .i64 page]) true).run Tryz.prog W = .ok (.tuple #[.agg #[.int .i64 (s.frame : Int), .int .i64 s.asked], .bool true]) W := by
    intro W hW
    obtain ⟨es0, clk0, his0⟩ := SlotsAt.same (w' := W) hC2.slots hW
    have hlook := his0.look (i := ino) (p := page) hiwf hpwf true
    rw [HSF.out] at hlook
    exact hlook
  have hl1 := hlk w2.drew rfl
  have hl2 := hlk (w2.alloc (.cells #[.int .i64 0, .int .i64 0] 181)).drew (Below.heap_alloc _ _ _ hC2.lts.2.1)
  have HC2 := Lib.hid hC2
  have HK2 := Lib.hid hK2
  have HW2 := Lib.hid hw2
  clear hlk hC2 hK2 hw2
  go_upto_region 9 with (fail)
  rw [← HW2.out]
  go_region_held3 (fun w' => w'.cell? ⟨c, 2, none⟩ = some (.map (some m)) ∧ w'.cell? ⟨w1.heap.size, 0, none⟩ = some (.int .i64 ino) ∧ w'.cell? ⟨w1.heap.size, 1, none⟩ = some (.int .i64 page)) (go_keep) (fail)
  all_goals
    obtain ⟨w3, hw3⟩ : ∃ w3, w3 = (w2.alloc (.cells #[.int .i64 (s.frame : Int), .int .i64 s.asked] 181)).drew := ⟨_, rfl⟩
    rw [← hw3]
    have hb3 : Below w2.heap.size w2 w3 := by rw [hw3]; exact ((Below.refl _ _).alloc (Nat.le_refl _) _).drew
    have hH3 : w3.heap[w2.heap.size]? = some (.cells #[.int .i64 (s.frame : Int), .int .i64 s.asked] 181 (0, 0)) := by rw [hw3]; exact heap_alloc_new w2 _
    have hl2' := HC2.out.lts
    have hlk1 := (Array.getElem?_eq_some_iff.1 HK2.out).1
    have hz1 := hb1.size
    have hz2 := hb2.size
    have hSl := H1.out.pool.low
    have hl1' := H1.out.lts
    obtain ⟨bh, hbh⟩ : ∃ bh, bh = w2.heap.size := ⟨_, rfl⟩
    obtain ⟨bk, hbk⟩ : ∃ bk, bk = w1.heap.size := ⟨_, rfl⟩
    have hK3 : w3.heap[bk]? = some (.cells #[.int .i64 ino, .int .i64 page] 177 (0, 0)) := by (rw [hbk]; exact ((hb3).block _ hlk1).trans HK2.out)
    have hH3' := hH3
    rw [← hbh] at hH3' ⊢
    rw [← hbk]
    have hbc : bh ≠ c := by omega
    have hbm : bh ≠ m := by omega
    have hbkh : bk ≠ bh := by omega
    have hbkc : bk ≠ c := by omega
    have hb00 : bh ≠ 0 := by omega
    have hbS : ¬ S bh := fun e => by (have := hSl _ e; omega)
    have hC3 := HC2.out.below hb3
    have HC3 := Lib.hid hC3
    have HH3 := Lib.hid hH3'
    have HK3 := Lib.hid hK3
    have HB3 := Lib.hid (hb1.trans ((hb2.trans ((hb3).mono hz2)).mono hz1))
    have HZB : w.heap.size ≤ bh := by omega
    have HBH := Lib.hid hbh
    have HBK := Lib.hid hbk
    clear hC3 hH3' hK3 hbh hbk k0 k1 k2 hl1 hl2
    clear hw3
    go_upto_region 16 with (fail)
    have hCt := HC3.out
    have hltc := hCt.lts
    have kc : w3.cell? ⟨c, 3, none⟩ = some (.int .i64 clock) := one_block hCt.self 3
    have kf : w3.frozen? ⟨c, 3, none⟩ = false := one_free hCt.self 3
    have hb0 : w3.cell? ⟨bh, 0, none⟩ = some (.int .i64 (s.frame : Int)) := one_block HH3.out 0
    have hb1 : w3.cell? ⟨bh, 1, none⟩ = some (.int .i64 s.asked) := one_block HH3.out 1
    have hbf : w3.frozen? ⟨bh, 1, none⟩ = false := one_free HH3.out 1
    have hwr : IntKind.i64.wrap (clock + 1) = clock + 1 := by (rw [IntKind.wrap_i64]; omega)
    obtain ⟨w20, hw20⟩ : ∃ w20, w20 = w3.setCell ⟨c, 3, none⟩ (.int .i64 (clock + 1)) := ⟨_, rfl⟩
    have hm20 : Mod (fun b => b = c) w3 w20 := by (rw [hw20]; exact mod_set (S := fun b => b = c) rfl 3 _)
    have hs20 : CacheSelf w20 c a fs m (clock + 1) := (by (rw [hw20]; exact hCt.self.tick))
    have hlb := (Array.getElem?_eq_some_iff.1 HH3.out).1
    have hH20 := (hm20.block bh hlb hbc).trans HH3.out
    have x0 : w20.cell? ⟨bh, 0, none⟩ = some (.int .i64 (s.frame : Int)) := one_block hH20 0
    have x1 : w20.cell? ⟨bh, 1, none⟩ = some (.int .i64 s.asked) := one_block hH20 1
    have x2 : w20.frozen? ⟨bh, 1, none⟩ = false := one_free hH20 1
    have x3 : w20.cell? ⟨c, 3, none⟩ = some (.int .i64 (clock + 1)) := one_block hs20 3
    obtain ⟨w21, hw21⟩ : ∃ w21, w21 = w20.setCell ⟨bh, 1, none⟩ (.int .i64 (clock + 1)) := ⟨_, rfl⟩
    have hm21 : Mod (fun b => b = bh) w20 w21 := by (rw [hw21]; exact mod_set (S := fun b => b = bh) rfl 1 _)
    have hH21 : w21.heap[bh]? = some (.cells #[.int .i64 (s.frame : Int), .int .i64 (clock + 1)] 181 (0, 0)) := by (rw [hw21]; simpa using Joins.block_setCell (i := 1) hH20 (.int .i64 (clock + 1)))
    have hlc20 := (Array.getElem?_eq_some_iff.1 hs20).1
    have hs21 : CacheSelf w21 c a fs m (clock + 1) := (hm21.block c hlc20 (fun e => hbc e.symm)).trans hs20
    have hlk := (Array.getElem?_eq_some_iff.1 HK3.out).1
    have hz20 := hm20.size
    have hz21 := hm21.size
    have hK21 := (hm21.block bk (by omega) hbkh).trans ((hm20.block bk hlk hbkc).trans HK3.out)
    have hsl21 : SlotsAt w21 m L := (hCt.slots.same ((hm21.block m (by omega) (fun e => hbm e.symm)).trans (hm20.block m hltc.2.1 (fun e => hltc.2.2.1 e.symm))))
    obtain ⟨es, clk, his⟩ := SlotsAt.same (w' := w21.drew) hsl21 rfl
    obtain ⟨es', clk', hmu, his'⟩ := his.put (s := ⟨ino, page, s.frame, clock + 1⟩) hiwf hpwf
    obtain ⟨w22, hw22⟩ : ∃ w22, w22 = Go.ChangeMaps.setBlock w21.drew m (.map es' clk') := ⟨_, rfl⟩
    rw [← hw22] at hmu his'
    have hmu' : (Instr.mapUpdate 155 (.map (some m)) (.agg #[.int .i64 ino, .int .i64 page]) (.agg #[.int .i64 (s.frame : Int), .int .i64 (clock + 1)])).run Tryz.prog w21.drew = .ok () w22 := hmu
    have y0 : w21.cell? ⟨c, 2, none⟩ = some (.map (some m)) := one_block hs21 2
    have y1 : w21.cell? ⟨bk, 0, none⟩ = some (.int .i64 ino) := one_block hK21 0
    have y2 : w21.cell? ⟨bk, 1, none⟩ = some (.int .i64 page) := one_block hK21 1
    have y3 : w21.cell? ⟨bh, 0, none⟩ = some (.int .i64 (s.frame : Int)) := one_block hH21 0
    have y4 : w21.cell? ⟨bh, 1, none⟩ = some (.int .i64 (clock + 1)) := one_block hH21 1
    have hm22 : Mod (fun b => b = m) w21 w22 := (by (rw [hw22]; exact mod_setBlock _ _ _))
    have hH22 := (hm22.block bh (by omega) hbm).trans hH21
    have y5 : w22.cell? ⟨bh, 0, none⟩ = some (.int .i64 (s.frame : Int)) := one_block hH22 0
    have hmAll : Mod (fun b => b = m ∨ b = c ∨ b = bh) w3 w22 := ((hm20.sub fun b hb => .inr (.inl hb)).trans (Out.refl _ _) ((hm21.sub fun b hb => .inr (.inr hb)).trans (Out.refl _ _) (hm22.sub fun b hb => .inl hb)))
    have hCe : CacheAt w22 S c a fs m (clock + 1) p (slPut L ⟨ino, page, s.frame, clock + 1⟩) := ⟨hCt.pool.mod hmAll (fun b hb e => by (rcases e with e | e | e; exact hCt.noM (e ▸ hb); exact hCt.noC (e ▸ hb); exact hbS (e ▸ hb))) (fun e => by (have h9 := hCt.c0; rcases e with e | e | e <;> omega)), (hm22.block c (by omega) hltc.2.2.1).trans hs21, ⟨es', clk', his'⟩, hCt.noC, hCt.noM⟩
    have HCE := Lib.hid hCe
    have HMA := Lib.hid hmAll
    have HW20 := Lib.hid hw20
    have HW21 := Lib.hid hw21
    have HW22 := Lib.hid hw22
    clear hCt hs20 hH20 hH21 hs21 hK21 hsl21 his his' hmu hm20 hm21 hm22 hCe hmAll hw20 hw21 hw22 hH22
    go_upto_region 17 with (fail)
    rw [← HW20.out]
    go_upto_region 18 with (fail)
    rw [← HW21.out]
    go_region
    go_wp2_with fail
    all_goals
      go_ret2
      exact ⟨0, s.frame, p, _, clock + 1, S, rfl, HCE.out, GetPost.mod HB3.out HMA.out HZB, Out.refl _ _, .hit s h0 h16 rfl HSF.out⟩

set_option maxRecDepth 100000 in
set_option maxHeartbeats 4000000 in
theorem get_new (c a fs m k : Nat) (ino page r0 clock : Int) (d : Nat → Nat) (w : World) (S : Nat → Prop) (p : Pool) (L : List Slot) (h : CacheAt w S c a fs m clock p L) (h0 : 0 ≤ page) (h16 : page < 16) (hiwf : (Lit.int .i64 ino).wf = true) (hrd : ReadIs w fs ino (page * 4096) 0 k d) (hd : ∀ i, d i < 256) (hk : k ≤ 4096) (hck : 0 ≤ clock ∧ clock < 1000000)
    (hs : L.find? (Slot.at ino page) = none) :
    Calls Tryz.prog 35 #[.pointer (some ⟨c, 0, none⟩), .int .i64 ino, .int .i64 page] w (GetPost w S c a fs m ino page 0 k d clock p L) := by
  have hpwf : (Lit.int .i64 page).wf = true := by go_wf2
  have hmul : IntKind.i64.wrap (page * 4096) = page * 4096 := by rw [IntKind.wrap_i64]; omega
  have c1 : w.cell? ⟨c, 1, none⟩ = some (.pointer (some ⟨fs, 0, none⟩)) := one_block h.self 1
  have HRD := Lib.hid hrd
  have H := Lib.hid h
  have HSF := Lib.hid hs
  clear hrd h hs
  go_enter Tryz.func35, Tryz.ntmps35
  go_upto_region 8 with (first
    | (go_at_call 92; refine (HRD.out).mono ?_; rintro e w1 ⟨A, cap, rfl, hA, hAn, hb1⟩; have HA := Lib.hid hA; have H1 := Lib.hid (H.out.below hb1); clear hA)
    | fail)
  obtain ⟨w2, hw2⟩ : ∃ w2, w2 = w1.alloc (.cells #[.int .i64 ino, .int .i64 page] 177) := ⟨_, rfl⟩
  have hb2 : Below w1.heap.size w1 w2 := by rw [hw2]; exact (Below.refl _ _).alloc (Nat.le_refl _) _
  have hK2 : w2.heap[w1.heap.size]? = some (.cells #[.int .i64 ino, .int .i64 page] 177 (0, 0)) := by rw [hw2]; exact heap_alloc_new _ _
  have hC2 := H1.out.below hb2
  have k0 : w2.cell? ⟨w1.heap.size, 0, none⟩ = some (.int .i64 ino) := one_block hK2 0
  have k1 : w2.cell? ⟨w1.heap.size, 1, none⟩ = some (.int .i64 page) := one_block hK2 1
  have k2 : w2.cell? ⟨c, 2, none⟩ = some (.map (some m)) := one_block hC2.self 2
  have hlk : ∀ W, W.heap[m]? = w2.heap[m]? → (Instr.lookup 155 (.map (some m)) (.agg #[.int .i64 ino, .int .i64 page]) true).run Tryz.prog W = .ok (.tuple #[.agg #[.int .i64 0, .int .i64 0], .bool false]) W := by
    intro W hW
    obtain ⟨es0, clk0, his0⟩ := SlotsAt.same (w' := W) hC2.slots hW
    have hlook := his0.look (i := ino) (p := page) hiwf hpwf true
    rw [HSF.out] at hlook
    exact hlook
  have hl1 := hlk w2.drew rfl
  have hl2 := hlk (w2.alloc (.cells #[.int .i64 0, .int .i64 0] 181)).drew (Below.heap_alloc _ _ _ hC2.lts.2.1)
  have HC2 := Lib.hid hC2
  have HK2 := Lib.hid hK2
  have HW2 := Lib.hid hw2
  clear hlk hC2 hK2 hw2
  go_upto_region 9 with (fail)
  rw [← HW2.out]
  go_region_held3 (fun w' => w'.cell? ⟨c, 2, none⟩ = some (.map (some m)) ∧ w'.cell? ⟨w1.heap.size, 0, none⟩ = some (.int .i64 ino) ∧ w'.cell? ⟨w1.heap.size, 1, none⟩ = some (.int .i64 page)) (go_keep) (fail)
  all_goals
    obtain ⟨w3, hw3⟩ : ∃ w3, w3 = (w2.alloc (.cells #[.int .i64 0, .int .i64 0] 181)).drew := ⟨_, rfl⟩
    rw [← hw3]
    have hb3 : Below w2.heap.size w2 w3 := by rw [hw3]; exact ((Below.refl _ _).alloc (Nat.le_refl _) _).drew
    have hH3 : w3.heap[w2.heap.size]? = some (.cells #[.int .i64 0, .int .i64 0] 181 (0, 0)) := by rw [hw3]; exact heap_alloc_new w2 _
    have hl2' := HC2.out.lts
    have hlk1 := (Array.getElem?_eq_some_iff.1 HK2.out).1
    have hz1 := hb1.size
    have hz2 := hb2.size
    have hSl := H1.out.pool.low
    have hl1' := H1.out.lts
    obtain ⟨bh, hbh⟩ : ∃ bh, bh = w2.heap.size := ⟨_, rfl⟩
    obtain ⟨bk, hbk⟩ : ∃ bk, bk = w1.heap.size := ⟨_, rfl⟩
    have hK3 : w3.heap[bk]? = some (.cells #[.int .i64 ino, .int .i64 page] 177 (0, 0)) := by (rw [hbk]; exact ((hb3).block _ hlk1).trans HK2.out)
    have hH3' := hH3
    rw [← hbh] at hH3' ⊢
    rw [← hbk]
    have hbc : bh ≠ c := by omega
    have hbm : bh ≠ m := by omega
    have hbkh : bk ≠ bh := by omega
    have hbkc : bk ≠ c := by omega
    have hb00 : bh ≠ 0 := by omega
    have hbS : ¬ S bh := fun e => by (have := hSl _ e; omega)
    have hC3 := HC2.out.below hb3
    have HC3 := Lib.hid hC3
    have HH3 := Lib.hid hH3'
    have HK3 := Lib.hid hK3
    have HB3 := Lib.hid (hb1.trans ((hb2.trans ((hb3).mono hz2)).mono hz1))
    have HZB : w.heap.size ≤ bh := by omega
    have HBH := Lib.hid hbh
    have HBK := Lib.hid hbk
    clear hC3 hH3' hK3 hbh hbk k0 k1 k2 hl1 hl2
    have hz3 := hb3.size
    have hA3 : BytesV w3 A k d := HA.out.kept (hb2.trans (hb3.mono hz2))
    have HA3 := Lib.hid hA3
    have hbhw : bh < w3.heap.size := (Array.getElem?_eq_some_iff.1 HH3.out).1
    have hbkw : bk < w3.heap.size := (Array.getElem?_eq_some_iff.1 HK3.out).1
    have hbkS : ¬ S bk := fun e => by have := hSl _ e; have := HBK.out; omega
    have hbkm : bk ≠ m := by have := HBK.out; omega
    have hAk : 0 < k → ∃ ad, A = some ad ∧ ad.block < w1.heap.size := fun h9 => by
      obtain ⟨ad, e9, hc9⟩ := HA.out h9
      exact ⟨ad, e9, by have := World.block_lt_of_cell? _ _ (hc9 0 h9); unfold Addr.add at this; split at this <;> exact this⟩
    clear hw3 hA3
    go_wp2_with fail
    refine (ctake_any c a fs m clock w3 S p L HC3.out).mono ?_
    rintro e w4 ⟨r, f, p1, L1, S1, rfl, hC4, hm4, ho4, hres⟩
    have hz4 := hm4.size
    have HC4 := Lib.hid hC4
    have HRES := Lib.hid hres
    have HM4 := Lib.hid hm4
    have HO4 := Lib.hid ho4
    clear hC4 hm4 ho4
    rcases hres.duo with rfl | ⟨rfl, rfl, rfl, rfl⟩
    rotate_left
    · clear hres
      go_wp2_with fail
      go_ret2
      exact ⟨4, 0, _, _, clock, S1, rfl, HC4.out, GetPost.mod2 HB3.out HM4.out HO4.out (Mod.refl _ _) (Mod.refl _ _) (Mod.refl _ _) HZB, fun b hb => (HO4.out b hb).imp id (fun h => by have := HB3.out.size; omega), .full h0 h16 rfl HSF.out HRES.out⟩
    clear hres
    obtain ⟨f1, f2, f3⟩ := HRES.out.live
    have hbh4 : ¬ Both S m bh := fun e => e.elim hbS hbm
    have hbk4 : ¬ Both S m bk := fun e => e.elim hbkS hbkm
    have hH4 := (HM4.out.block bh hbhw hbh4).trans HH3.out
    have hK4 := (HM4.out.block bk hbkw hbk4).trans HK3.out
    have hS1 : ¬ S1 bh := fun e => (HO4.out bh e).elim hbS (by omega)
    have hS1k : ¬ S1 bk := fun e => (HO4.out bk e).elim hbkS (by omega)
    have hA4 : BytesV w4 A k d := HA3.out.mod HM4.out (fun ad e h9 => by
      have h8 := hAn ad e h9
      exact fun e => e.elim (fun e => by have := H.out.pool.low _ e; omega) (fun e => by have := H.out.lts.2.1; omega))
    have HA4 := Lib.hid hA4
    have HH4 := Lib.hid hH4
    have HK4 := Lib.hid hK4
    clear hA4 hH4 hK4 f3 hAk
    have e0 : w4.cell? ⟨c, 0, none⟩ = some (.pointer (some ⟨a, 0, none⟩)) := one_block HC4.out.self 0
    go_upto_region 16 with (first
      | (go_at_call 93; refine (store_yes a f 0 k cap A d w4 S1 p1 HC4.out.pool f1 (Nat.le_of_eq f2.symm) (by omega) (by omega) HA4.out hd).mono ?_; rintro e w5 ⟨rfl, hP5, hm5⟩; have HC5 := Lib.hid (HC4.out.turn hm5 hP5 (Out.refl _ _)); have HM5 := Lib.hid hm5; have hH5 := (hm5.block bh (by omega) hS1).trans HH4.out; have hK5 := (hm5.block bk (by omega) hS1k).trans HK4.out; have HH5 := Lib.hid hH5; have HK5 := Lib.hid hK5; have g0 := one_block hH5 0; have g1 := one_free hH5 0; clear hP5 hm5 hH5 hK5)
      | fail)
    obtain ⟨w6, hw6⟩ : ∃ w6, w6 = w5.setCell ⟨bh, 0, none⟩ (.int .i64 (f : Int)) := ⟨_, rfl⟩
    rw [← hw6]
    have hm6 : Mod (fun b => b = bh) w5 w6 := by rw [hw6]; exact mod_set (S := fun b => b = bh) rfl 0 _
    have hH6 : w6.heap[bh]? = some (.cells #[.int .i64 (f : Int), .int .i64 0] 181 (0, 0)) := by rw [hw6]; simpa using Joins.block_setCell (i := 0) HH5.out (.int .i64 (f : Int))
    have hz5 := HM5.out.size
    have hK6 := (hm6.block bk (by omega) hbkh).trans HK5.out
    have hc0 := HC5.out.c0
    have HC6 := Lib.hid (HC5.out.mod hm6 (fun b hb e => hS1 (e ▸ hb)) (fun e => hb00 e.symm) (fun e => hbc e.symm) (fun e => hbm e.symm))
    have HH6 := Lib.hid hH6
    have HK6 := Lib.hid hK6
    have HM6 := Lib.hid hm6
    clear hw6 hm6 hH6 hK6 g0 g1 e0 hbS
    have hbS := hS1
    obtain ⟨p2, hp2⟩ : ∃ p2, p2 = p1.store f (laid (p1.dat f) d 0 k) := ⟨_, rfl⟩
    rw [← hp2] at HC6
    have HP2 := Lib.hid hp2
    clear hp2
    have hCt := HC6.out
    have hltc := hCt.lts
    have kc : w6.cell? ⟨c, 3, none⟩ = some (.int .i64 clock) := one_block hCt.self 3
    have kf : w6.frozen? ⟨c, 3, none⟩ = false := one_free hCt.self 3
    have hb0 : w6.cell? ⟨bh, 0, none⟩ = some (.int .i64 (f : Int)) := one_block HH6.out 0
    have hb1 : w6.cell? ⟨bh, 1, none⟩ = some (.int .i64 0) := one_block HH6.out 1
    have hbf : w6.frozen? ⟨bh, 1, none⟩ = false := one_free HH6.out 1
    have hwr : IntKind.i64.wrap (clock + 1) = clock + 1 := by (rw [IntKind.wrap_i64]; omega)
    obtain ⟨w20, hw20⟩ : ∃ w20, w20 = w6.setCell ⟨c, 3, none⟩ (.int .i64 (clock + 1)) := ⟨_, rfl⟩
    have hm20 : Mod (fun b => b = c) w6 w20 := by (rw [hw20]; exact mod_set (S := fun b => b = c) rfl 3 _)
    have hs20 : CacheSelf w20 c a fs m (clock + 1) := (by (rw [hw20]; exact hCt.self.tick))
    have hlb := (Array.getElem?_eq_some_iff.1 HH6.out).1
    have hH20 := (hm20.block bh hlb hbc).trans HH6.out
    have x0 : w20.cell? ⟨bh, 0, none⟩ = some (.int .i64 (f : Int)) := one_block hH20 0
    have x1 : w20.cell? ⟨bh, 1, none⟩ = some (.int .i64 0) := one_block hH20 1
    have x2 : w20.frozen? ⟨bh, 1, none⟩ = false := one_free hH20 1
    have x3 : w20.cell? ⟨c, 3, none⟩ = some (.int .i64 (clock + 1)) := one_block hs20 3
    obtain ⟨w21, hw21⟩ : ∃ w21, w21 = w20.setCell ⟨bh, 1, none⟩ (.int .i64 (clock + 1)) := ⟨_, rfl⟩
    have hm21 : Mod (fun b => b = bh) w20 w21 := by (rw [hw21]; exact mod_set (S := fun b => b = bh) rfl 1 _)
    have hH21 : w21.heap[bh]? = some (.cells #[.int .i64 (f : Int), .int .i64 (clock + 1)] 181 (0, 0)) := by (rw [hw21]; simpa using Joins.block_setCell (i := 1) hH20 (.int .i64 (clock + 1)))
    have hlc20 := (Array.getElem?_eq_some_iff.1 hs20).1
    have hs21 : CacheSelf w21 c a fs m (clock + 1) := (hm21.block c hlc20 (fun e => hbc e.symm)).trans hs20
    have hlk := (Array.getElem?_eq_some_iff.1 HK6.out).1
    have hz20 := hm20.size
    have hz21 := hm21.size
    have hK21 := (hm21.block bk (by omega) hbkh).trans ((hm20.block bk hlk hbkc).trans HK6.out)
    have hsl21 : SlotsAt w21 m L1 := (hCt.slots.same ((hm21.block m (by omega) (fun e => hbm e.symm)).trans (hm20.block m hltc.2.1 (fun e => hltc.2.2.1 e.symm))))
    obtain ⟨es, clk, his⟩ := SlotsAt.same (w' := w21.drew) hsl21 rfl
    obtain ⟨es', clk', hmu, his'⟩ := his.put (s := ⟨ino, page, f, clock + 1⟩) hiwf hpwf
    obtain ⟨w22, hw22⟩ : ∃ w22, w22 = Go.ChangeMaps.setBlock w21.drew m (.map es' clk') := ⟨_, rfl⟩
    rw [← hw22] at hmu his'
    have hmu' : (Instr.mapUpdate 155 (.map (some m)) (.agg #[.int .i64 ino, .int .i64 page]) (.agg #[.int .i64 (f : Int), .int .i64 (clock + 1)])).run Tryz.prog w21.drew = .ok () w22 := hmu
    have y0 : w21.cell? ⟨c, 2, none⟩ = some (.map (some m)) := one_block hs21 2
    have y1 : w21.cell? ⟨bk, 0, none⟩ = some (.int .i64 ino) := one_block hK21 0
    have y2 : w21.cell? ⟨bk, 1, none⟩ = some (.int .i64 page) := one_block hK21 1
    have y3 : w21.cell? ⟨bh, 0, none⟩ = some (.int .i64 (f : Int)) := one_block hH21 0
    have y4 : w21.cell? ⟨bh, 1, none⟩ = some (.int .i64 (clock + 1)) := one_block hH21 1
    have hm22 : Mod (fun b => b = m) w21 w22 := (by (rw [hw22]; exact mod_setBlock _ _ _))
    have hH22 := (hm22.block bh (by omega) hbm).trans hH21
    have y5 : w22.cell? ⟨bh, 0, none⟩ = some (.int .i64 (f : Int)) := one_block hH22 0
    have hmAll : Mod (fun b => b = m ∨ b = c ∨ b = bh) w6 w22 := ((hm20.sub fun b hb => .inr (.inl hb)).trans (Out.refl _ _) ((hm21.sub fun b hb => .inr (.inr hb)).trans (Out.refl _ _) (hm22.sub fun b hb => .inl hb)))
    have hCe : CacheAt w22 S1 c a fs m (clock + 1) p2 (slPut L1 ⟨ino, page, f, clock + 1⟩) := ⟨hCt.pool.mod hmAll (fun b hb e => by (rcases e with e | e | e; exact hCt.noM (e ▸ hb); exact hCt.noC (e ▸ hb); exact hbS (e ▸ hb))) (fun e => by (have h9 := hCt.c0; rcases e with e | e | e <;> omega)), (hm22.block c (by omega) hltc.2.2.1).trans hs21, ⟨es', clk', his'⟩, hCt.noC, hCt.noM⟩
    have HCE := Lib.hid hCe
    have HMA := Lib.hid hmAll
    have HW20 := Lib.hid hw20
    have HW21 := Lib.hid hw21
    have HW22 := Lib.hid hw22
    clear hCt hs20 hH20 hH21 hs21 hK21 hsl21 his his' hmu hm20 hm21 hm22 hCe hmAll hw20 hw21 hw22 hH22
    go_upto_region 17 with (fail)
    rw [← HW20.out]
    go_upto_region 18 with (fail)
    rw [← HW21.out]
    go_region
    go_wp2_with fail
    all_goals
      go_ret2
      exact ⟨0, f, p2, _, clock + 1, S1, rfl, HCE.out, GetPost.mod2 HB3.out HM4.out HO4.out HM5.out HM6.out HMA.out HZB, fun b hb => (HO4.out b hb).imp id (fun h => by have := HB3.out.size; omega), by rw [HP2.out]; exact .miss f p1 L1 h0 h16 rfl HSF.out HRES.out⟩

end Go.Proofs.YtkkmcnngpahfaaaGreatDoor

namespace Go.Proofs.YtkkmcnngpahfaaaGreatDoor
open Go.RowKit Go.Sort
set_option linter.unusedSimpArgs false
set_option linter.unusedVariables false

/-- Bytes of one's own in memory. -/
def ByteRow (w : World) (A : Option Addr) (n cap : Nat) (d : Nat → Nat) : Prop :=
  BytesV w A n d ∧ (∀ x, A = some x → ∃ (g : Nat) (cs : Array Value) (f : Nat × Nat), x = ⟨g, 0, none⟩ ∧ w.heap[g]? = some (.cells cs 5 f)) ∧ n ≤ cap ∧ SliceOk A n cap
theorem OwnB.byteRow {w : World} {base g cap n : Nat} {d : Nat → Nat} (h : OwnB w base (some ⟨g, 0, none⟩) cap n d) : ByteRow w (some ⟨g, 0, none⟩) n cap d := by
  refine ⟨h.v, fun x hx => ?_, ?_, fun e => by cases e⟩
  · injection hx with hx
    subst hx
    rcases h.2 with ⟨h2, _⟩ | ⟨g', cap', cur, h1, _, h3, _⟩
    · injection h2 with h2; cases h2
    · injection h1 with e1
      injection e1 with e1
      injection e1 with e1
      subst e1
      exact ⟨_, _, _, rfl, h3⟩
  · rcases h.2 with ⟨h2, _⟩ | ⟨g', cap', cur, h1, _, _, h4, _⟩
    · injection h2 with h2; cases h2
    · injection h1 with _ _ e3
      omega
theorem ByteRow.below {w w' : World} {A : Option Addr} {n cap : Nat} {d : Nat → Nat} (h : ByteRow w A n cap d) (hb : Below w.heap.size w w') : ByteRow w' A n cap d := by
  obtain ⟨h1, h2, h3⟩ := h
  refine ⟨h1.kept hb, fun x hx => ?_, h3⟩
  obtain ⟨g, cs, f, e, hg⟩ := h2 x hx
  exact ⟨g, cs, f, e, (hb.block g (Array.getElem?_eq_some_iff.1 hg).1).trans hg⟩
theorem BytesV.lt {w : World} {ad : Addr} {n : Nat} {d : Nat → Nat} (h : BytesV w (some ad) n d) (h0 : 0 < n) : ad.block < w.heap.size := by
  obtain ⟨x, e, hc⟩ := h h0
  injection e with e
  subst e
  have hl := World.block_lt_of_cell? _ _ (hc 0 h0)
  have hbk : (ad.add 0).block = ad.block := by unfold Addr.add; split <;> rfl
  rw [hbk] at hl
  exact hl
def ClonePost (w : World) (n : Nat) (d : Nat → Nat) (e : Ending) (w' : World) : Prop := ∃ A cap, e = .returned (.slice A n cap) ∧ ByteRow w' A n cap d ∧ Below w.heap.size w w'
theorem clone_nothing (w : World) : Calls Tryz.prog 124 #[.slice none 0 0] w fun e w' => e = .returned (.slice none 0 0) ∧ w' = w := by
  have hnil := fun (W : World) => Lib.run_eql_slice_nil (P := Tryz.prog) (w := W) 99 5 none 0 0 0 0 Tryz.underlying99
  go_enter Tryz.func124, Tryz.ntmps124
  go_wp2_with fail
  go_ret
  exact ⟨rfl, rfl⟩
theorem clone_empty (c : Nat) (ad : Addr) (w : World) : Calls Tryz.prog 124 #[.slice (some ad) 0 c] w fun e w' => e = .returned (.slice (some ⟨w.heap.size, 0, none⟩) 0 0) ∧ w' = w.alloc (.cells #[] 5) := by
  have hnil := fun (W : World) => Lib.run_eql_slice_nil (P := Tryz.prog) (w := W) 99 5 (some ad) 0 c 0 0 Tryz.underlying99
  go_enter Tryz.func124, Tryz.ntmps124
  go_wp2_with fail
  go_ret
  exact ⟨rfl, rfl⟩
theorem clone_gen (A : Option Addr) (n c : Nat) (d : Nat → Nat) (w : World) (hok : SliceOk A n c) (hn2 : n ≤ 1000000) (hA : BytesV w A n d) :
    Calls Tryz.prog 124 #[.slice A n c] w (ClonePost w n d) := by
  cases A with
  | none =>
    obtain ⟨rfl, rfl⟩ := hok rfl
    refine (clone_nothing w).mono ?_
    rintro e w' ⟨rfl, rfl⟩
    exact ⟨none, 0, rfl, ⟨(fun h => by omega), (fun x hx => by cases hx), Nat.le_refl _, fun _ => ⟨rfl, rfl⟩⟩, Below.refl _ _⟩
  | some ad =>
    by_cases h0 : 0 < n
    · refine (clone_any n c ad d w h0 hn2 hA (hA.lt h0)).mono ?_
      rintro e w' ⟨g, cap, rfl, ho, hb⟩
      exact ⟨_, _, rfl, ho.byteRow, hb⟩
    · obtain rfl : n = 0 := by omega
      refine (clone_empty c ad w).mono ?_
      rintro e w' ⟨rfl, rfl⟩
      exact ⟨_, _, rfl, ⟨(fun h => by omega), (fun x hx => by injection hx with hx; subst hx; exact ⟨_, _, _, rfl, heap_alloc_new w _⟩), Nat.le_refl _, fun e => by cases e⟩, (Below.refl _ _).alloc (Nat.le_refl _) _⟩

theorem node_neq (k a : Nat) (W : World) : (binOp .neq 207 (nodeV k a) .nilIface).run Tryz.prog W = .ok (.bool true) W := by
  unfold nodeV tyOf
  split
  · kernel_rfl
  · split <;> kernel_rfl
theorem node_eql (k a : Nat) (W : World) : (binOp .eql 207 (nodeV k a) .nilIface).run Tryz.prog W = .ok (.bool false) W := by
  unfold nodeV tyOf
  split
  · kernel_rfl
  · split <;> kernel_rfl

theorem node_gneq (x y : Operand) (k a : Nat) (W : World) : (eqGuard .neq 207 x y (nodeV k a) .nilIface).run Tryz.prog W = .ok () W := rfl
theorem node_geql (x y : Operand) (k a : Nat) (W : World) : (eqGuard .eql 207 x y (nodeV k a) .nilIface).run Tryz.prog W = .ok () W := rfl
def AddPostG (B fs : Nat) (F : List Nd) (x : Ent) (w : World) (e : Ending) (w' : World) : Prop :=
  e = .returned (.int .i64 (addM F x).1) ∧ (∃ nb c2 ad mp, FsIs w' B fs nb c2 ad mp (addM F x).2) ∧ Below B w w'
theorem OwnS.strs {w : World} {base : Nat} {A : Option Addr} {cap : Nat} {l : List ByteArray} (h : OwnS w base A cap l) : StrsV w A l := fun j x hx => by
  rcases h.form with ⟨_, e, _⟩ | ⟨g, e, _⟩
  · rw [e] at hx; simp at hx
  · subst e
    exact ⟨g, rfl, h.elem hx⟩
theorem StrsV.front {w : World} {A : Option Addr} {l : List ByteArray} (h : StrsV w A l) : StrsV w A l.dropLast := fun j x hx => by
  refine h j x ?_
  have hl := (List.getElem?_eq_some_iff.1 hx).1
  rw [List.length_dropLast] at hl
  rw [List.getElem?_dropLast, if_pos hl] at hx
  exact hx

set_option maxRecDepth 100000 in
set_option maxHeartbeats 4000000 in
theorem vadd_bad (B fs nb c2 c : Nat) (ad mp : Nat → Nat) (F : List Nd) (x : Ent) (A : Option Addr) (w : World) (h : FsIs w B fs nb c2 ad mp F) (hp : x.path.size ≤ 1000000000) (ht : x.to.size ≤ 1000000000) (hn : x.n ≤ 9223372036854775807) (hB : B ≤ w.heap.size) (hm : may x ≠ 0) :
    Calls Tryz.prog 84 #[.pointer (some ⟨fs, 0, none⟩), x.val A c] w (AddPostG B fs F x w) := by
  have hadd : addM F x = (may x, F) := by unfold addM; rw [if_pos hm]
  unfold AddPostG
  rw [hadd]
  obtain ⟨r, hr⟩ : ∃ r, r = may x := ⟨_, rfl⟩
  have hne : (r != 0) = true := by rw [bne_iff_ne, hr]; exact hm
  have hpa := fun W => vparts_any x A c W hp ht hn
  rw [← hr] at hpa ⊢
  obtain ⟨w0, hw0⟩ : ∃ w0, w0 = w.alloc (.cells #[.string x.path, .int .u8 (x.kind : Int), .int .u16 (x.mode : Int), .int .u32 (x.uid : Int), .int .u32 (x.gid : Int), .slice A x.n c, .string x.to] 106) := ⟨_, rfl⟩
  have hb0 : Below w.heap.size w w0 := by rw [hw0]; exact (Below.refl _ _).alloc (Nat.le_refl _) _
  have hE : w0.heap[w.heap.size]? = some (.cells #[.string x.path, .int .u8 (x.kind : Int), .int .u16 (x.mode : Int), .int .u32 (x.uid : Int), .int .u32 (x.gid : Int), .slice A x.n c, .string x.to] 106 (0, 0)) := by rw [hw0]; exact heap_alloc_new w _
  have d0 : w0.cell? ⟨w.heap.size, 0, none⟩ = some (.string x.path) := one_block hE 0
  have d1 : w0.cell? ⟨w.heap.size, 1, none⟩ = some (.int .u8 (x.kind : Int)) := one_block hE 1
  have d2 : w0.cell? ⟨w.heap.size, 2, none⟩ = some (.int .u16 (x.mode : Int)) := one_block hE 2
  have d3 : w0.cell? ⟨w.heap.size, 3, none⟩ = some (.int .u32 (x.uid : Int)) := one_block hE 3
  have d4 : w0.cell? ⟨w.heap.size, 4, none⟩ = some (.int .u32 (x.gid : Int)) := one_block hE 4
  have d5 : w0.cell? ⟨w.heap.size, 5, none⟩ = some (.slice A x.n c) := one_block hE 5
  have d6 : w0.cell? ⟨w.heap.size, 6, none⟩ = some (.string x.to) := one_block hE 6
  unfold Ent.val at hpa ⊢
  have HPA := Lib.hid hpa
  have HW0 := Lib.hid hw0
  have HH := Lib.hid h
  have HM := Lib.hid hm
  have HR := Lib.hid hr
  clear hpa hw0 h hm hr hadd hE
  go_enter Tryz.func84, Tryz.ntmps84
  go_upto_region 1 with (fail)
  rw [← HW0.out]
  go_wp2_with (first
    | (go_at_call 122; refine (HPA.out _).mono ?_; rintro e w1 ⟨A1, cap1, l1, rfl, ho1, hb1, hl1, hl2⟩; have HB1 := Lib.hid hb1; clear ho1 hb1 hl1 hl2)
    | fail)
  go_ret
  have hb := hb0.trans (HB1.out.mono hb0.size)
  exact ⟨rfl, ⟨nb, c2, ad, mp, HH.out.below hb⟩, hb.mono hB⟩

end Go.Proofs.YtkkmcnngpahfaaaGreatDoor

namespace Go.Proofs.YtkkmcnngpahfaaaGreatDoor
open Go.RowKit Go.Sort
set_option linter.unusedSimpArgs false
set_option linter.unusedVariables false

theorem addM_there {F : List Nd} {x : Ent} {j : Nat} (hm : may x = 0) (h : atM F 0 (partsOf x.path) = some j) : addM F x = (7, F) := by
  unfold addM
  rw [if_neg (by omega), h]
  rfl
theorem addM_noent {F : List Nd} {x : Ent} (hm : may x = 0) (h : atM F 0 (partsOf x.path) = none) (h2 : atM F 0 (partsOf x.path).dropLast = none) : addM F x = (3, F) := by
  unfold addM
  rw [if_neg (by omega), h, h2]
  rfl
theorem addM_notdir {F : List Nd} {x : Ent} {up : Nat} (hm : may x = 0) (h : atM F 0 (partsOf x.path) = none) (h2 : atM F 0 (partsOf x.path).dropLast = some up) (hk : kindOf F up ≠ 2) : addM F x = (8, F) := by
  unfold addM
  rw [if_neg (by omega), h, h2]
  show (if kindOf F up ≠ 2 then ((8 : Int), F) else (0, F ++ [newNd x up ((partsOf x.path).getLastD ⟨#[]⟩)])) = (8, F)
  rw [if_pos hk]
theorem addM_done {F : List Nd} {x : Ent} {up : Nat} (hm : may x = 0) (h : atM F 0 (partsOf x.path) = none) (h2 : atM F 0 (partsOf x.path).dropLast = some up) (hk : kindOf F up = 2) : addM F x = (0, F ++ [newNd x up ((partsOf x.path).getLastD ⟨#[]⟩)]) := by
  unfold addM
  rw [if_neg (by omega), h, h2]
  show (if kindOf F up ≠ 2 then ((8 : Int), F) else (0, F ++ [newNd x up ((partsOf x.path).getLastD ⟨#[]⟩)])) = _
  rw [if_neg (by omega)]

set_option maxRecDepth 100000 in
set_option maxHeartbeats 4000000 in
theorem vadd_there (B fs nb c2 c j : Nat) (ad mp : Nat → Nat) (F : List Nd) (x : Ent) (A : Option Addr) (w : World) (h : FsIs w B fs nb c2 ad mp F) (hp : x.path.size ≤ 1000000000) (ht : x.to.size ≤ 1000000000) (hn : x.n ≤ 9223372036854775807) (hB : B ≤ w.heap.size) (hm : may x = 0) (hF : F.length ≤ 1000)
    (ha : atM F 0 (partsOf x.path) = some j) :
    Calls Tryz.prog 84 #[.pointer (some ⟨fs, 0, none⟩), x.val A c] w (AddPostG B fs F x w) := by
  unfold AddPostG
  rw [addM_there hm ha]
  obtain ⟨L, hL⟩ : ∃ L, L = partsOf x.path := ⟨_, rfl⟩
  obtain ⟨_, _, _, hcp, _, hLne, _⟩ := may_zero hm
  have hL200 : L.length ≤ 201 := by rw [hL]; have h1 := (chk_zero hcp).2.1; have := partsOf_length x.path; omega
  obtain ⟨m, hmL⟩ : ∃ m, m + 1 = L.length := ⟨L.length - 1, by
    have : 0 < L.length := List.length_pos_iff.2 (by rw [hL]; exact hLne)
    omega⟩
  have hmf : m ≤ 200 := by omega
  have hpa : ∀ W, Calls Tryz.prog 122 #[x.val A c] W fun e w' => ∃ A1 cap1, e = .returned (.tuple #[.slice A1 (m + 1) cap1, .int .i64 0]) ∧ Hid (OwnS w' W.heap.size A1 cap1 L) ∧ Hid (Below W.heap.size W w') ∧ m + 1 ≤ cap1 := fun W => by
    refine (vparts_any x A c W hp ht hn).mono ?_
    rintro e w' ⟨A1, cap1, l1, rfl, ho1, hb1, hl1, hl2⟩
    have h9 := hl1 hm
    rw [← hL] at h9
    subst h9
    refine ⟨A1, cap1, by rw [hm, hmL], Lib.hid ho1, Lib.hid hb1, ?_⟩
    rcases ho1.form with ⟨_, e, _⟩ | ⟨g, _, _, _, e⟩
    · rw [e] at hmL; cases hmL
    · omega
  obtain ⟨w0, hw0⟩ : ∃ w0, w0 = w.alloc (.cells #[.string x.path, .int .u8 (x.kind : Int), .int .u16 (x.mode : Int), .int .u32 (x.uid : Int), .int .u32 (x.gid : Int), .slice A x.n c, .string x.to] 106) := ⟨_, rfl⟩
  have hb0 : Below w.heap.size w w0 := by rw [hw0]; exact (Below.refl _ _).alloc (Nat.le_refl _) _
  have hE : w0.heap[w.heap.size]? = some (.cells #[.string x.path, .int .u8 (x.kind : Int), .int .u16 (x.mode : Int), .int .u32 (x.uid : Int), .int .u32 (x.gid : Int), .slice A x.n c, .string x.to] 106 (0, 0)) := by rw [hw0]; exact heap_alloc_new w _
  have d0 : w0.cell? ⟨w.heap.size, 0, none⟩ = some (.string x.path) := one_block hE 0
  have d1 : w0.cell? ⟨w.heap.size, 1, none⟩ = some (.int .u8 (x.kind : Int)) := one_block hE 1
  have d2 : w0.cell? ⟨w.heap.size, 2, none⟩ = some (.int .u16 (x.mode : Int)) := one_block hE 2
  have d3 : w0.cell? ⟨w.heap.size, 3, none⟩ = some (.int .u32 (x.uid : Int)) := one_block hE 3
  have d4 : w0.cell? ⟨w.heap.size, 4, none⟩ = some (.int .u32 (x.gid : Int)) := one_block hE 4
  have d5 : w0.cell? ⟨w.heap.size, 5, none⟩ = some (.slice A x.n c) := one_block hE 5
  have d6 : w0.cell? ⟨w.heap.size, 6, none⟩ = some (.string x.to) := one_block hE 6
  have hat1 : ∀ W A1 cap1 base, Below w.heap.size w W → Hid (OwnS W base A1 cap1 L) → m + 1 ≤ cap1 → Calls Tryz.prog 123 #[.pointer (some ⟨fs, 0, none⟩), .slice A1 (m + 1) cap1] W fun e w' => e = .returned (atV F ad (atM F 0 L)) ∧ w' = W := fun W A1 cap1 base hb ho hc =>
    vat_any B fs nb c2 (m + 1) cap1 ad mp F A1 L W (h.below hb) ho.out.strs hmL hc (by omega) (by omega)
  have hat2 : ∀ W A1 cap1 base, Below w.heap.size w W → Hid (OwnS W base A1 cap1 L) → m + 1 ≤ cap1 → Calls Tryz.prog 123 #[.pointer (some ⟨fs, 0, none⟩), .slice A1 m cap1] W fun e w' => e = .returned (atV F ad (atM F 0 L.dropLast)) ∧ w' = W := fun W A1 cap1 base hb ho hc =>
    vat_any B fs nb c2 m cap1 ad mp F A1 L.dropLast W (h.below hb) ho.out.strs.front (by rw [List.length_dropLast]; omega) (by omega) (by omega) (by omega)
  have hneq := fun k a W => node_neq k a W
  have heql := fun k a W => node_eql k a W
  have hgneq := fun x y k a W => node_gneq x y k a W
  have hgeql := fun x y k a W => node_geql x y k a W
  have HE := Lib.hid hE
  have HML := Lib.hid hmL
  have HL := Lib.hid hL
  (rw [← hL] at ha; rw [ha] at hat1; have hat1 : ∀ W A1 cap1 base, Below w.heap.size w W → Hid (OwnS W base A1 cap1 L) → m + 1 ≤ cap1 → Calls Tryz.prog 123 #[.pointer (some ⟨fs, 0, none⟩), .slice A1 (m + 1) cap1] W fun e w' => e = .returned (nodeV (kindOf F j) (ad j)) ∧ w' = W := hat1; clear ha)
  have hpa' := hpa
  unfold Ent.val at hpa' ⊢
  have HPA := Lib.hid hpa'
  have HAT1 := Lib.hid hat1
  have HAT2 := Lib.hid hat2
  have HW0 := Lib.hid hw0
  have HH := Lib.hid h
  have HM := Lib.hid hm
  clear hpa hpa' hat1 hat2 hw0 h hm hE hmL hL hcp hLne hL200
  go_enter Tryz.func84, Tryz.ntmps84
  go_upto_region 1 with (fail)
  rw [← HW0.out]
  go_wp2_with (first
    | (go_at_call 122; refine (HPA.out _).mono ?_; rintro e w1 ⟨A1, cap1, rfl, HO1, HB1, hc1⟩)
    | (go_at_call 123; refine (HAT1.out _ _ _ _ (hb0.trans (HB1.out.mono hb0.size)) HO1 hc1).mono ?_; rintro e w2 ⟨rfl, rfl⟩)
    | fail)
  go_ret
  have hb := hb0.trans (HB1.out.mono hb0.size)
  exact ⟨rfl, ⟨nb, c2, ad, mp, HH.out.below hb⟩, hb.mono hB⟩

set_option maxRecDepth 100000 in
set_option maxHeartbeats 4000000 in
theorem vadd_noent (B fs nb c2 c : Nat) (ad mp : Nat → Nat) (F : List Nd) (x : Ent) (A : Option Addr) (w : World) (h : FsIs w B fs nb c2 ad mp F) (hp : x.path.size ≤ 1000000000) (ht : x.to.size ≤ 1000000000) (hn : x.n ≤ 9223372036854775807) (hB : B ≤ w.heap.size) (hm : may x = 0) (hF : F.length ≤ 1000)
    (ha : atM F 0 (partsOf x.path) = none) (ha2 : atM F 0 (partsOf x.path).dropLast = none) :
    Calls Tryz.prog 84 #[.pointer (some ⟨fs, 0, none⟩), x.val A c] w (AddPostG B fs F x w) := by
  unfold AddPostG
  rw [addM_noent hm ha ha2]
  obtain ⟨L, hL⟩ : ∃ L, L = partsOf x.path := ⟨_, rfl⟩
  obtain ⟨_, _, _, hcp, _, hLne, _⟩ := may_zero hm
  have hL200 : L.length ≤ 201 := by rw [hL]; have h1 := (chk_zero hcp).2.1; have := partsOf_length x.path; omega
  obtain ⟨m, hmL⟩ : ∃ m, m + 1 = L.length := ⟨L.length - 1, by
    have : 0 < L.length := List.length_pos_iff.2 (by rw [hL]; exact hLne)
    omega⟩
  have hmf : m ≤ 200 := by omega
  have hpa : ∀ W, Calls Tryz.prog 122 #[x.val A c] W fun e w' => ∃ A1 cap1, e = .returned (.tuple #[.slice A1 (m + 1) cap1, .int .i64 0]) ∧ Hid (OwnS w' W.heap.size A1 cap1 L) ∧ Hid (Below W.heap.size W w') ∧ m + 1 ≤ cap1 := fun W => by
    refine (vparts_any x A c W hp ht hn).mono ?_
    rintro e w' ⟨A1, cap1, l1, rfl, ho1, hb1, hl1, hl2⟩
    have h9 := hl1 hm
    rw [← hL] at h9
    subst h9
    refine ⟨A1, cap1, by rw [hm, hmL], Lib.hid ho1, Lib.hid hb1, ?_⟩
    rcases ho1.form with ⟨_, e, _⟩ | ⟨g, _, _, _, e⟩
    · rw [e] at hmL; cases hmL
    · omega
  obtain ⟨w0, hw0⟩ : ∃ w0, w0 = w.alloc (.cells #[.string x.path, .int .u8 (x.kind : Int), .int .u16 (x.mode : Int), .int .u32 (x.uid : Int), .int .u32 (x.gid : Int), .slice A x.n c, .string x.to] 106) := ⟨_, rfl⟩
  have hb0 : Below w.heap.size w w0 := by rw [hw0]; exact (Below.refl _ _).alloc (Nat.le_refl _) _
  have hE : w0.heap[w.heap.size]? = some (.cells #[.string x.path, .int .u8 (x.kind : Int), .int .u16 (x.mode : Int), .int .u32 (x.uid : Int), .int .u32 (x.gid : Int), .slice A x.n c, .string x.to] 106 (0, 0)) := by rw [hw0]; exact heap_alloc_new w _
  have d0 : w0.cell? ⟨w.heap.size, 0, none⟩ = some (.string x.path) := one_block hE 0
  have d1 : w0.cell? ⟨w.heap.size, 1, none⟩ = some (.int .u8 (x.kind : Int)) := one_block hE 1
  have d2 : w0.cell? ⟨w.heap.size, 2, none⟩ = some (.int .u16 (x.mode : Int)) := one_block hE 2
  have d3 : w0.cell? ⟨w.heap.size, 3, none⟩ = some (.int .u32 (x.uid : Int)) := one_block hE 3
  have d4 : w0.cell? ⟨w.heap.size, 4, none⟩ = some (.int .u32 (x.gid : Int)) := one_block hE 4
  have d5 : w0.cell? ⟨w.heap.size, 5, none⟩ = some (.slice A x.n c) := one_block hE 5
  have d6 : w0.cell? ⟨w.heap.size, 6, none⟩ = some (.string x.to) := one_block hE 6
  have hat1 : ∀ W A1 cap1 base, Below w.heap.size w W → Hid (OwnS W base A1 cap1 L) → m + 1 ≤ cap1 → Calls Tryz.prog 123 #[.pointer (some ⟨fs, 0, none⟩), .slice A1 (m + 1) cap1] W fun e w' => e = .returned (atV F ad (atM F 0 L)) ∧ w' = W := fun W A1 cap1 base hb ho hc =>
    vat_any B fs nb c2 (m + 1) cap1 ad mp F A1 L W (h.below hb) ho.out.strs hmL hc (by omega) (by omega)
  have hat2 : ∀ W A1 cap1 base, Below w.heap.size w W → Hid (OwnS W base A1 cap1 L) → m + 1 ≤ cap1 → Calls Tryz.prog 123 #[.pointer (some ⟨fs, 0, none⟩), .slice A1 m cap1] W fun e w' => e = .returned (atV F ad (atM F 0 L.dropLast)) ∧ w' = W := fun W A1 cap1 base hb ho hc =>
    vat_any B fs nb c2 m cap1 ad mp F A1 L.dropLast W (h.below hb) ho.out.strs.front (by rw [List.length_dropLast]; omega) (by omega) (by omega) (by omega)
  have hneq := fun k a W => node_neq k a W
  have heql := fun k a W => node_eql k a W
  have hgneq := fun x y k a W => node_gneq x y k a W
  have hgeql := fun x y k a W => node_geql x y k a W
  have HE := Lib.hid hE
  have HML := Lib.hid hmL
  have HL := Lib.hid hL
  (rw [← hL] at ha ha2; rw [ha] at hat1; rw [ha2] at hat2; have hat1 : ∀ W A1 cap1 base, Below w.heap.size w W → Hid (OwnS W base A1 cap1 L) → m + 1 ≤ cap1 → Calls Tryz.prog 123 #[.pointer (some ⟨fs, 0, none⟩), .slice A1 (m + 1) cap1] W fun e w' => e = .returned .nilIface ∧ w' = W := hat1; have hat2 : ∀ W A1 cap1 base, Below w.heap.size w W → Hid (OwnS W base A1 cap1 L) → m + 1 ≤ cap1 → Calls Tryz.prog 123 #[.pointer (some ⟨fs, 0, none⟩), .slice A1 m cap1] W fun e w' => e = .returned .nilIface ∧ w' = W := hat2; clear ha ha2)
  have hpa' := hpa
  unfold Ent.val at hpa' ⊢
  have HPA := Lib.hid hpa'
  have HAT1 := Lib.hid hat1
  have HAT2 := Lib.hid hat2
  have HW0 := Lib.hid hw0
  have HH := Lib.hid h
  have HM := Lib.hid hm
  clear hpa hpa' hat1 hat2 hw0 h hm hE hmL hL hcp hLne hL200
  go_enter Tryz.func84, Tryz.ntmps84
  go_upto_region 1 with (fail)
  rw [← HW0.out]
  go_upto_region 7 with (first
    | (go_at_call 122; refine (HPA.out _).mono ?_; rintro e w1 ⟨A1, cap1, rfl, HO1, HB1, hc1⟩)
    | (go_at_call 123; refine (HAT1.out _ _ _ _ (hb0.trans (HB1.out.mono hb0.size)) HO1 hc1).mono ?_; rintro e w2 ⟨rfl, rfl⟩)
    | fail)
  go_wp2_with (first
    | (go_at_call 123; refine (HAT2.out _ _ _ _ (hb0.trans (HB1.out.mono hb0.size)) HO1 hc1).mono ?_; rintro e w3 ⟨rfl, rfl⟩)
    | fail)
  go_ret
  have hb := hb0.trans (HB1.out.mono hb0.size)
  exact ⟨rfl, ⟨nb, c2, ad, mp, HH.out.below hb⟩, hb.mono hB⟩

set_option maxRecDepth 100000 in
set_option maxHeartbeats 4000000 in
theorem vadd_notdir (B fs nb c2 c up : Nat) (ad mp : Nat → Nat) (F : List Nd) (x : Ent) (A : Option Addr) (w : World) (h : FsIs w B fs nb c2 ad mp F) (hp : x.path.size ≤ 1000000000) (ht : x.to.size ≤ 1000000000) (hn : x.n ≤ 9223372036854775807) (hB : B ≤ w.heap.size) (hm : may x = 0) (hF : F.length ≤ 1000)
    (ha : atM F 0 (partsOf x.path) = none) (ha2 : atM F 0 (partsOf x.path).dropLast = some up) (hk : kindOf F up ≠ 2) :
    Calls Tryz.prog 84 #[.pointer (some ⟨fs, 0, none⟩), x.val A c] w (AddPostG B fs F x w) := by
  unfold AddPostG
  rw [addM_notdir hm ha ha2 hk]
  have hass := fun W => assert_node (kindOf F up) (ad up) W
  rw [if_neg hk, decide_eq_false hk] at hass
  clear hk
  obtain ⟨L, hL⟩ : ∃ L, L = partsOf x.path := ⟨_, rfl⟩
  obtain ⟨_, _, _, hcp, _, hLne, _⟩ := may_zero hm
  have hL200 : L.length ≤ 201 := by rw [hL]; have h1 := (chk_zero hcp).2.1; have := partsOf_length x.path; omega
  obtain ⟨m, hmL⟩ : ∃ m, m + 1 = L.length := ⟨L.length - 1, by
    have : 0 < L.length := List.length_pos_iff.2 (by rw [hL]; exact hLne)
    omega⟩
  have hmf : m ≤ 200 := by omega
  have hpa : ∀ W, Calls Tryz.prog 122 #[x.val A c] W fun e w' => ∃ A1 cap1, e = .returned (.tuple #[.slice A1 (m + 1) cap1, .int .i64 0]) ∧ Hid (OwnS w' W.heap.size A1 cap1 L) ∧ Hid (Below W.heap.size W w') ∧ m + 1 ≤ cap1 := fun W => by
    refine (vparts_any x A c W hp ht hn).mono ?_
    rintro e w' ⟨A1, cap1, l1, rfl, ho1, hb1, hl1, hl2⟩
    have h9 := hl1 hm
    rw [← hL] at h9
    subst h9
    refine ⟨A1, cap1, by rw [hm, hmL], Lib.hid ho1, Lib.hid hb1, ?_⟩
    rcases ho1.form with ⟨_, e, _⟩ | ⟨g, _, _, _, e⟩
    · rw [e] at hmL; cases hmL
    · omega
  obtain ⟨w0, hw0⟩ : ∃ w0, w0 = w.alloc (.cells #[.string x.path, .int .u8 (x.kind : Int), .int .u16 (x.mode : Int), .int .u32 (x.uid : Int), .int .u32 (x.gid : Int), .slice A x.n c, .string x.to] 106) := ⟨_, rfl⟩
  have hb0 : Below w.heap.size w w0 := by rw [hw0]; exact (Below.refl _ _).alloc (Nat.le_refl _) _
  have hE : w0.heap[w.heap.size]? = some (.cells #[.string x.path, .int .u8 (x.kind : Int), .int .u16 (x.mode : Int), .int .u32 (x.uid : Int), .int .u32 (x.gid : Int), .slice A x.n c, .string x.to] 106 (0, 0)) := by rw [hw0]; exact heap_alloc_new w _
  have d0 : w0.cell? ⟨w.heap.size, 0, none⟩ = some (.string x.path) := one_block hE 0
  have d1 : w0.cell? ⟨w.heap.size, 1, none⟩ = some (.int .u8 (x.kind : Int)) := one_block hE 1
  have d2 : w0.cell? ⟨w.heap.size, 2, none⟩ = some (.int .u16 (x.mode : Int)) := one_block hE 2
  have d3 : w0.cell? ⟨w.heap.size, 3, none⟩ = some (.int .u32 (x.uid : Int)) := one_block hE 3
  have d4 : w0.cell? ⟨w.heap.size, 4, none⟩ = some (.int .u32 (x.gid : Int)) := one_block hE 4
  have d5 : w0.cell? ⟨w.heap.size, 5, none⟩ = some (.slice A x.n c) := one_block hE 5
  have d6 : w0.cell? ⟨w.heap.size, 6, none⟩ = some (.string x.to) := one_block hE 6
  have hat1 : ∀ W A1 cap1 base, Below w.heap.size w W → Hid (OwnS W base A1 cap1 L) → m + 1 ≤ cap1 → Calls Tryz.prog 123 #[.pointer (some ⟨fs, 0, none⟩), .slice A1 (m + 1) cap1] W fun e w' => e = .returned (atV F ad (atM F 0 L)) ∧ w' = W := fun W A1 cap1 base hb ho hc =>
    vat_any B fs nb c2 (m + 1) cap1 ad mp F A1 L W (h.below hb) ho.out.strs hmL hc (by omega) (by omega)
  have hat2 : ∀ W A1 cap1 base, Below w.heap.size w W → Hid (OwnS W base A1 cap1 L) → m + 1 ≤ cap1 → Calls Tryz.prog 123 #[.pointer (some ⟨fs, 0, none⟩), .slice A1 m cap1] W fun e w' => e = .returned (atV F ad (atM F 0 L.dropLast)) ∧ w' = W := fun W A1 cap1 base hb ho hc =>
    vat_any B fs nb c2 m cap1 ad mp F A1 L.dropLast W (h.below hb) ho.out.strs.front (by rw [List.length_dropLast]; omega) (by omega) (by omega) (by omega)
  have hneq := fun k a W => node_neq k a W
  have heql := fun k a W => node_eql k a W
  have hgneq := fun x y k a W => node_gneq x y k a W
  have hgeql := fun x y k a W => node_geql x y k a W
  have HE := Lib.hid hE
  have HML := Lib.hid hmL
  have HL := Lib.hid hL
  (rw [← hL] at ha ha2; rw [ha] at hat1; rw [ha2] at hat2; have hat1 : ∀ W A1 cap1 base, Below w.heap.size w W → Hid (OwnS W base A1 cap1 L) → m + 1 ≤ cap1 → Calls Tryz.prog 123 #[.pointer (some ⟨fs, 0, none⟩), .slice A1 (m + 1) cap1] W fun e w' => e = .returned .nilIface ∧ w' = W := hat1; have hat2 : ∀ W A1 cap1 base, Below w.heap.size w W → Hid (OwnS W base A1 cap1 L) → m + 1 ≤ cap1 → Calls Tryz.prog 123 #[.pointer (some ⟨fs, 0, none⟩), .slice A1 m cap1] W fun e w' => e = .returned (nodeV (kindOf F up) (ad up)) ∧ w' = W := hat2; clear ha ha2)
  have hpa' := hpa
  unfold Ent.val at hpa' ⊢
  have HPA := Lib.hid hpa'
  have HAT1 := Lib.hid hat1
  have HAT2 := Lib.hid hat2
  have HW0 := Lib.hid hw0
  have HH := Lib.hid h
  have HM := Lib.hid hm
  clear hpa hpa' hat1 hat2 hw0 h hm hE hmL hL hcp hLne hL200
  go_enter Tryz.func84, Tryz.ntmps84
  go_upto_region 1 with (fail)
  rw [← HW0.out]
  go_upto_region 7 with (first
    | (go_at_call 122; refine (HPA.out _).mono ?_; rintro e w1 ⟨A1, cap1, rfl, HO1, HB1, hc1⟩)
    | (go_at_call 123; refine (HAT1.out _ _ _ _ (hb0.trans (HB1.out.mono hb0.size)) HO1 hc1).mono ?_; rintro e w2 ⟨rfl, rfl⟩)
    | fail)
  go_wp2_with (first
    | (go_at_call 123; refine (HAT2.out _ _ _ _ (hb0.trans (HB1.out.mono hb0.size)) HO1 hc1).mono ?_; rintro e w3 ⟨rfl, rfl⟩)
    | fail)
  go_ret
  have hb := hb0.trans (HB1.out.mono hb0.size)
  exact ⟨rfl, ⟨nb, c2, ad, mp, HH.out.below hb⟩, hb.mono hB⟩

end Go.Proofs.YtkkmcnngpahfaaaGreatDoor

namespace Go.Proofs.YtkkmcnngpahfaaaGreatDoor
open Go.RowKit Go.Sort
set_option linter.unusedSimpArgs false
set_option linter.unusedVariables false

theorem last_part {L : List ByteArray} {m : Nat} (h : m + 1 = L.length) : ∃ s, L[m]? = some s ∧ L.getLastD ⟨#[]⟩ = s ∧ L = L.dropLast ++ [s] := by
  have hne : L ≠ [] := fun e => by rw [e] at h; cases h
  have h1 : L = L.dropLast ++ [L.getLast hne] := (List.dropLast_concat_getLast hne).symm
  refine ⟨L.getLast hne, ?_, ?_, h1⟩
  · rw [List.getLast_eq_getElem]
    have : L.length - 1 = m := by omega
    simp only [this]
    exact List.getElem?_eq_getElem (by omega)
  · cases L with
    | nil => exact absurd rfl hne
    | cons a l => rfl
theorem free_name {F : List Nd} {L : List ByteArray} {s : ByteArray} {up : Nat} (hL : L = L.dropLast ++ [s]) (h1 : atM F 0 L = none) (h2 : atM F 0 L.dropLast = some up) (hk : kindOf F up = 2) : ∀ y ∈ namesOf F up, y.1 ≠ s := by
  rw [hL, atM_snoc, h2] at h1
  simp only at h1
  refine lookN_none ?_
  cases hc : lookN (namesOf F up) s with
  | none => rfl
  | some j => rw [atM_go hk hc] at h1; cases h1

set_option maxRecDepth 100000 in
set_option maxHeartbeats 4000000 in
theorem vadd_done (B fs nb c2 c up : Nat) (ad mp : Nat → Nat) (F : List Nd) (x : Ent) (A : Option Addr) (w : World) (h : FsIs w B fs nb c2 ad mp F) (hp : x.path.size ≤ 1000000000) (ht : x.to.size ≤ 1000000000) (hn : x.n ≤ 9223372036854775807) (hB : B ≤ w.heap.size) (hm : may x = 0) (hF : F.length ≤ 1000)
    (hA : BytesV w A x.n x.dat) (hAok : SliceOk A x.n c)
    (ha : atM F 0 (partsOf x.path) = none) (ha2 : atM F 0 (partsOf x.path).dropLast = some up) (hk : kindOf F up = 2) :
    Calls Tryz.prog 84 #[.pointer (some ⟨fs, 0, none⟩), x.val A c] w (AddPostG B fs F x w) := by
  have hok := addM_ok (F := F) (e := x) h.ok (by rw [addM_done hm ha ha2 hk])
  unfold AddPostG
  rw [addM_done hm ha ha2 hk] at hok ⊢
  have hup := atM_lt _ h.ok.pos ha2
  have hass := fun W => assert_node (kindOf F up) (ad up) W
  rw [if_pos hk, decide_eq_true hk] at hass
  obtain ⟨N, hN⟩ : ∃ N, N = F.length := ⟨_, rfl⟩
  have hNf : N ≤ 1000 := by omega
  obtain ⟨V, hV⟩ : ∃ V, V = nodeV (kindOf F up) (ad up) := ⟨_, rfl⟩
  have hmay := may_zero hm
  obtain ⟨L, hL⟩ : ∃ L, L = partsOf x.path := ⟨_, rfl⟩
  obtain ⟨_, _, _, hcp, _, hLne, _⟩ := may_zero hm
  have hL200 : L.length ≤ 201 := by rw [hL]; have h1 := (chk_zero hcp).2.1; have := partsOf_length x.path; omega
  obtain ⟨m, hmL⟩ : ∃ m, m + 1 = L.length := ⟨L.length - 1, by
    have : 0 < L.length := List.length_pos_iff.2 (by rw [hL]; exact hLne)
    omega⟩
  have hmf : m ≤ 200 := by omega
  have hpa : ∀ W, Calls Tryz.prog 122 #[x.val A c] W fun e w' => ∃ A1 cap1, e = .returned (.tuple #[.slice A1 (m + 1) cap1, .int .i64 0]) ∧ Hid (OwnS w' W.heap.size A1 cap1 L) ∧ Hid (Below W.heap.size W w') ∧ m + 1 ≤ cap1 := fun W => by
    refine (vparts_any x A c W hp ht hn).mono ?_
    rintro e w' ⟨A1, cap1, l1, rfl, ho1, hb1, hl1, hl2⟩
    have h9 := hl1 hm
    rw [← hL] at h9
    subst h9
    refine ⟨A1, cap1, by rw [hm, hmL], Lib.hid ho1, Lib.hid hb1, ?_⟩
    rcases ho1.form with ⟨_, e, _⟩ | ⟨g, _, _, _, e⟩
    · rw [e] at hmL; cases hmL
    · omega
  obtain ⟨w0, hw0⟩ : ∃ w0, w0 = w.alloc (.cells #[.string x.path, .int .u8 (x.kind : Int), .int .u16 (x.mode : Int), .int .u32 (x.uid : Int), .int .u32 (x.gid : Int), .slice A x.n c, .string x.to] 106) := ⟨_, rfl⟩
  have hb0 : Below w.heap.size w w0 := by rw [hw0]; exact (Below.refl _ _).alloc (Nat.le_refl _) _
  have hE : w0.heap[w.heap.size]? = some (.cells #[.string x.path, .int .u8 (x.kind : Int), .int .u16 (x.mode : Int), .int .u32 (x.uid : Int), .int .u32 (x.gid : Int), .slice A x.n c, .string x.to] 106 (0, 0)) := by rw [hw0]; exact heap_alloc_new w _
  have d0 : w0.cell? ⟨w.heap.size, 0, none⟩ = some (.string x.path) := one_block hE 0
  have d1 : w0.cell? ⟨w.heap.size, 1, none⟩ = some (.int .u8 (x.kind : Int)) := one_block hE 1
  have d2 : w0.cell? ⟨w.heap.size, 2, none⟩ = some (.int .u16 (x.mode : Int)) := one_block hE 2
  have d3 : w0.cell? ⟨w.heap.size, 3, none⟩ = some (.int .u32 (x.uid : Int)) := one_block hE 3
  have d4 : w0.cell? ⟨w.heap.size, 4, none⟩ = some (.int .u32 (x.gid : Int)) := one_block hE 4
  have d5 : w0.cell? ⟨w.heap.size, 5, none⟩ = some (.slice A x.n c) := one_block hE 5
  have d6 : w0.cell? ⟨w.heap.size, 6, none⟩ = some (.string x.to) := one_block hE 6
  have hat1 : ∀ W A1 cap1 base, Below w.heap.size w W → Hid (OwnS W base A1 cap1 L) → m + 1 ≤ cap1 → Calls Tryz.prog 123 #[.pointer (some ⟨fs, 0, none⟩), .slice A1 (m + 1) cap1] W fun e w' => e = .returned (atV F ad (atM F 0 L)) ∧ w' = W := fun W A1 cap1 base hb ho hc =>
    vat_any B fs nb c2 (m + 1) cap1 ad mp F A1 L W (h.below hb) ho.out.strs hmL hc (by omega) (by omega)
  have hat2 : ∀ W A1 cap1 base, Below w.heap.size w W → Hid (OwnS W base A1 cap1 L) → m + 1 ≤ cap1 → Calls Tryz.prog 123 #[.pointer (some ⟨fs, 0, none⟩), .slice A1 m cap1] W fun e w' => e = .returned (atV F ad (atM F 0 L.dropLast)) ∧ w' = W := fun W A1 cap1 base hb ho hc =>
    vat_any B fs nb c2 m cap1 ad mp F A1 L.dropLast W (h.below hb) ho.out.strs.front (by rw [List.length_dropLast]; omega) (by omega) (by omega) (by omega)
  have hneq := fun k a W => node_neq k a W
  have heql := fun k a W => node_eql k a W
  have hgneq := fun x y k a W => node_gneq x y k a W
  have hgeql := fun x y k a W => node_geql x y k a W
  have HE := Lib.hid hE
  have HML := Lib.hid hmL
  have HL := Lib.hid hL
  (rw [← hL] at ha ha2; have hat1' := hat1; rw [ha] at hat1'; have hat2' := hat2; rw [ha2] at hat2'; clear hat1 hat2; have hat1 : ∀ W A1 cap1 base, Below w.heap.size w W → Hid (OwnS W base A1 cap1 L) → m + 1 ≤ cap1 → Calls Tryz.prog 123 #[.pointer (some ⟨fs, 0, none⟩), .slice A1 (m + 1) cap1] W fun e w' => e = .returned .nilIface ∧ w' = W := hat1'; have hat2 : ∀ W A1 cap1 base, Below w.heap.size w W → Hid (OwnS W base A1 cap1 L) → m + 1 ≤ cap1 → Calls Tryz.prog 123 #[.pointer (some ⟨fs, 0, none⟩), .slice A1 m cap1] W fun e w' => e = .returned (nodeV (kindOf F up) (ad up)) ∧ w' = W := hat2'; have HAA := Lib.hid ha; have HAA2 := Lib.hid ha2; have HKU := Lib.hid hk; have HNN := Lib.hid hN; have HOK := Lib.hid hok; have HMAY := Lib.hid hmay; have HBV := Lib.hid hA; have HSO := Lib.hid hAok; have hgeq := node_geql; clear ha ha2 hat1' hat2' hk hN hok hV hmay hA hAok)
  have hpa' := hpa
  unfold Ent.val at hpa' ⊢
  have HPA := Lib.hid hpa'
  have HAT1 := Lib.hid hat1
  have HAT2 := Lib.hid hat2
  have HW0 := Lib.hid hw0
  have HH := Lib.hid h
  have HM := Lib.hid hm
  clear hpa hpa' hat1 hat2 hw0 h hm hE hmL hL hcp hLne hL200
  go_enter Tryz.func84, Tryz.ntmps84
  go_upto_region 1 with (fail)
  rw [← HW0.out]
  go_upto_region 7 with (first
    | (go_at_call 122; refine (HPA.out _).mono ?_; rintro e w1 ⟨A1, cap1, rfl, HO1, HB1, hc1⟩)
    | (go_at_call 123; refine (HAT1.out _ _ _ _ (hb0.trans (HB1.out.mono hb0.size)) HO1 hc1).mono ?_; rintro e w2 ⟨rfl, rfl⟩)
    | fail)
  go_upto_region 13 with (first
    | (go_at_call 123; refine (HAT2.out _ _ _ _ (hb0.trans (HB1.out.mono hb0.size)) HO1 hc1).mono ?_; rintro e w3 ⟨rfl, rfl⟩)
    | fail)
  clear d0 d1 d2 d3 d4 d5 d6
  have hlt0 : w.heap.size < w0.heap.size := (Array.getElem?_eq_some_iff.1 HE.out).1
  have hbw : Below w.heap.size w w3 := hb0.trans (HB1.out.mono hb0.size)
  have hE1 := (HB1.out.block _ hlt0).trans HE.out
  obtain ⟨s, hs, hsL, hsD⟩ := last_part HML.out
  obtain ⟨g, hgA, hg1, hg2⟩ : ∃ g, A1 = some ⟨g, 0, none⟩ ∧ w0.heap.size ≤ g ∧ g < w3.heap.size := by
    rcases HO1.out.form with ⟨_, e, _⟩ | ⟨g, e1, e2, e3, _⟩
    · exfalso; have := HML.out; rw [e] at this; cases this
    · exact ⟨g, e1, e2, e3⟩
  subst hgA
  have hF3 := HH.out.below hbw
  have cg : w3.cell? ⟨g, m, none⟩ = some (.string s) := OwnS.elem HO1.out hs
  have e1 : w3.cell? ⟨w.heap.size, 1, none⟩ = some (.int .u8 (x.kind : Int)) := one_block hE1 1
  have e2 : w3.cell? ⟨w.heap.size, 2, none⟩ = some (.int .u16 (x.mode : Int)) := one_block hE1 2
  have e3 : w3.cell? ⟨w.heap.size, 3, none⟩ = some (.int .u32 (x.uid : Int)) := one_block hE1 3
  have e4 : w3.cell? ⟨w.heap.size, 4, none⟩ = some (.int .u32 (x.gid : Int)) := one_block hE1 4
  have e5 : w3.cell? ⟨w.heap.size, 5, none⟩ = some (.slice A x.n c) := one_block hE1 5
  have e8 : w3.cell? ⟨fs, 0, none⟩ = some (.slice (some ⟨nb, 0, none⟩) N c2) := by rw [HNN.out]; exact one_block hF3.self 0
  have l1 : fs < w3.heap.size := (Array.getElem?_eq_some_iff.1 hF3.self).1
  have l2 : w.heap.size < w3.heap.size := (Array.getElem?_eq_some_iff.1 hE1).1
  have HE1 := Lib.hid hE1
  have HF3 := Lib.hid hF3
  have HSL := Lib.hid hsL
  have HFREE := Lib.hid (free_name hsD HAA.out HAA2.out HKU.out)
  have HBW := Lib.hid hbw
  clear hE1 hF3 hs hsL hsD hbw
  have hmm1 : (m : Int) < (m : Int) + 1 := by omega
  go_region_held3 (fun w' => w'.cell? ⟨w.heap.size, 1, none⟩ = some (.int .u8 (x.kind : Int)) ∧ w'.cell? ⟨w.heap.size, 2, none⟩ = some (.int .u16 (x.mode : Int)) ∧ w'.cell? ⟨w.heap.size, 3, none⟩ = some (.int .u32 (x.uid : Int)) ∧ w'.cell? ⟨w.heap.size, 4, none⟩ = some (.int .u32 (x.gid : Int)) ∧ w'.cell? ⟨w.heap.size, 5, none⟩ = some (.slice A x.n c) ∧ w'.cell? ⟨fs, 0, none⟩ = some (.slice (some ⟨nb, 0, none⟩) N c2) ∧ w'.cell? ⟨g, m, none⟩ = some (.string s))
    (go_keep)
    (fail)
  go_upto_region 14 with (fail)
  obtain ⟨w4, hw4⟩ : ∃ w4, w4 = (w3.alloc (.cells #[.int .u8 (x.kind : Int), .int .u16 (x.mode : Int), .int .u32 (x.uid : Int), .int .u32 (x.gid : Int), .int .i64 (x.n : Int), .int .i64 (N : Int), .pointer (some ⟨ad up, 0, none⟩), .string s] 147)).drew := ⟨_, rfl⟩
  rw [← hw4]
  have hB4 : w4.heap[w3.heap.size]? = some (.cells #[.int .u8 (x.kind : Int), .int .u16 (x.mode : Int), .int .u32 (x.uid : Int), .int .u32 (x.gid : Int), .int .i64 (x.n : Int), .int .i64 (N : Int), .pointer (some ⟨ad up, 0, none⟩), .string s] 147 (0, 0)) := by rw [hw4]; exact heap_alloc_new w3 _
  have hbe4 : Below w3.heap.size w3 w4 := by rw [hw4]; exact ((Below.refl _ _).alloc (Nat.le_refl _) _).drew
  have hz4 := hbe4.size
  have l3 : w3.heap.size < w4.heap.size := (Array.getElem?_eq_some_iff.1 hB4).1
  clear e1 e2 e3 e4 e5 e8
  have e1 : w4.cell? ⟨w.heap.size, 1, none⟩ = some (.int .u8 (x.kind : Int)) := (hbe4.cell l2).trans (one_block HE1.out 1)
  have e5 : w4.cell? ⟨w.heap.size, 5, none⟩ = some (.slice A x.n c) := (hbe4.cell l2).trans (one_block HE1.out 5)
  have e6 : w4.cell? ⟨w.heap.size, 6, none⟩ = some (.string x.to) := (hbe4.cell l2).trans (one_block HE1.out 6)
  have x0 : w4.cell? ⟨w3.heap.size, 0, none⟩ = some (.int .u8 (x.kind : Int)) := one_block hB4 0
  have x1 : w4.cell? ⟨w3.heap.size, 1, none⟩ = some (.int .u16 (x.mode : Int)) := one_block hB4 1
  have x2 : w4.cell? ⟨w3.heap.size, 2, none⟩ = some (.int .u32 (x.uid : Int)) := one_block hB4 2
  have x3 : w4.cell? ⟨w3.heap.size, 3, none⟩ = some (.int .u32 (x.gid : Int)) := one_block hB4 3
  have x4 : w4.cell? ⟨w3.heap.size, 4, none⟩ = some (.int .i64 (x.n : Int)) := one_block hB4 4
  have x5 : w4.cell? ⟨w3.heap.size, 5, none⟩ = some (.int .i64 (N : Int)) := one_block hB4 5
  have x6 : w4.cell? ⟨w3.heap.size, 6, none⟩ = some (.pointer (some ⟨ad up, 0, none⟩)) := one_block hB4 6
  have x7 : w4.cell? ⟨w3.heap.size, 7, none⟩ = some (.string s) := one_block hB4 7
  have HB4 := Lib.hid hB4
  have HBE4 := Lib.hid hbe4
  clear hB4 hbe4 hw4 hneq heql hgneq hgeql hgeq hass
  have hk13 : x.kind = 1 ∨ x.kind = 2 ∨ x.kind = 3 := by have := HMAY.out; omega
  have HXK := Lib.hid hk13
  clear hk13
  rcases HXK.out with hxk | hxk | hxk
  · have hkk : ((x.kind : Nat) : Int) = 1 := by omega
    have t1 : (((x.kind : Nat) : Int) == 2) = false := by rw [hkk]; decide
    have t2 : (((x.kind : Nat) : Int) == 1) = true := by rw [hkk]; decide
    have HXK3 := Lib.hid hxk
    have hxn : x.n ≤ 1000000 := by have := HMAY.out; omega
    have hBV4 : ∀ W, Below w4.heap.size w4 W → BytesV W A x.n x.dat := fun W hW => HBV.out.kept (HBW.out.trans ((HBE4.out.trans (hW.mono hz4)).mono (by have := HBW.out.size; omega)))
    have HBV4 := Lib.hid hBV4
    have hwz : w.heap.size ≤ w4.heap.size := by omega
    clear hxk hkk hBV4
    go_upto_region 20 with (fail)
    go_region_with
      ((first
        | (go_at_call 124; refine (clone_gen A x.n c x.dat _ HSO.out hxn (HBV4.out _ ((Below.refl _ _).drew))).mono ?_; rintro e w6 ⟨A6, cd, rfl, ho6, hb6⟩; have hb6' : Below w4.heap.size w4 w6 := ((Below.refl w4.heap.size w4).drew).trans hb6; have y0 := (hb6'.cell (p := ⟨w3.heap.size, 0, none⟩) l3).trans x0; have y1 := (hb6'.cell (p := ⟨w3.heap.size, 1, none⟩) l3).trans x1; have y2 := (hb6'.cell (p := ⟨w3.heap.size, 2, none⟩) l3).trans x2; have y3 := (hb6'.cell (p := ⟨w3.heap.size, 3, none⟩) l3).trans x3; have y4 := (hb6'.cell (p := ⟨w3.heap.size, 4, none⟩) l3).trans x4; have y5 := (hb6'.cell (p := ⟨w3.heap.size, 5, none⟩) l3).trans x5; have y6 := (hb6'.cell (p := ⟨w3.heap.size, 6, none⟩) l3).trans x6; have y7 := (hb6'.cell (p := ⟨w3.heap.size, 7, none⟩) l3).trans x7; have HO6 := Lib.hid ho6; clear ho6 hb6)))
    all_goals
     (
    go_upto_region 21 with (fail)
    obtain ⟨w7, hw7⟩ : ∃ w7, w7 = w6.alloc (.cells #[.int .u8 (x.kind : Int), .int .u16 (x.mode : Int), .int .u32 (x.uid : Int), .int .u32 (x.gid : Int), .int .i64 (x.n : Int), .int .i64 (N : Int), .pointer (some ⟨ad up, 0, none⟩), .string s, .slice A6 x.n cd] 212) := ⟨_, rfl⟩
    rw [← hw7]
    have hz6 := hb6'.size
    have hX7 : w7.heap[w6.heap.size]? = some (.cells #[.int .u8 (x.kind : Int), .int .u16 (x.mode : Int), .int .u32 (x.uid : Int), .int .u32 (x.gid : Int), .int .i64 (x.n : Int), .int .i64 (N : Int), .pointer (some ⟨ad up, 0, none⟩), .string s, .slice A6 x.n cd] 212 (0, 0)) := by rw [hw7]; exact heap_alloc_new w6 _
    have hbe7 : Below w4.heap.size w4 w7 := by rw [hw7]; exact hb6'.alloc hz6 _
    have HO7 := Lib.hid (HO6.out.below (w' := w7) (by rw [hw7]; exact (Below.refl _ _).alloc (Nat.le_refl _) _))
    clear hw7 y0 y1 y2 y3 y4 y5 y6 y7
    have hz7 := hbe7.size
    have hb37 : Below w3.heap.size w3 w7 := HBE4.out.trans (hbe7.mono hz4)
    have hF7 := HF3.out.below hb37
    have hN7 : NodeAt w7 (w6.heap.size) F.length (0) (ad up) (newNd x up s) := ⟨_, _, (by rw [← HNN.out]; exact hX7), (fun e => absurd (show x.kind = 2 from e) (by rw [HXK3.out]; decide)), (fun _ => ⟨rfl, A6, cd, rfl, HO7.out.1, HO7.out.2.1, HO7.out.2.2⟩), (fun e => absurd (show x.kind = 3 from e) (by rw [HXK3.out]; decide))⟩
    have hfsl := (Array.getElem?_eq_some_iff.1 HF3.out.self).1
    have hnbl := row_lt HF3.out.row
    have hV : (nodeV (kindOf (F ++ [newNd x up s]) F.length) (upd ad F.length (w6.heap.size) F.length)) = .iface 210 (.pointer (some ⟨w6.heap.size, 0, none⟩)) := (by
      rw [upd_same]
      have e : kindOf (F ++ [newNd x up s]) F.length = x.kind := (by
        unfold kindOf
        rw [List.getElem?_append_right (Nat.le_refl _)]
        simp [newNd])
      rw [e, HXK3.out]
      rfl)
    have hnames : NamesAt w7.drew (mp up) (namesOf F up) (fun j => nodeV (kindOf (F ++ [newNd x up s]) j) (upd ad F.length (w6.heap.size) j)) := ((hF7.names up HKU.out).congr (fun y hy => (by
      have hl := (namesOf_mem hy).1
      rw [kindOf_snoc _ hl, upd_ne _ _ (by omega)]))).same rfl
    obtain ⟨w8, hmu, hn8, hm8', hz8⟩ := hnames.put s F.length HFREE.out
    have hm8 : Mod (fun b => b = mp up) w7 w8 := hm8'.undrew
    have hmu' : (Instr.mapUpdate 148 (.map (some (mp up))) (.string s) (.iface 210 (.pointer (some ⟨w6.heap.size, 0, none⟩)))).run Tryz.prog w7.drew = .ok () w8 := (by rw [← hV]; exact hmu)
    have z1 : w7.cell? ⟨ad up, 8, none⟩ = some (.map (some (mp up))) := hF7.mapCell HKU.out
    have z2 : w7.cell? ⟨g, m, none⟩ = some (.string s) := (hb37.cell (p := ⟨g, m, none⟩) hg2).trans cg
    have HF7 := Lib.hid hF7
    have HN7 := Lib.hid hN7
    have HN8 := Lib.hid hn8
    have HM8 := Lib.hid hm8
    have HB37 := Lib.hid hb37
    have HMQ : Hid ((newNd x up s).kind = 2 → (∃ clk, w7.heap[0]? = some (.map #[] clk)) ∧ B ≤ 0 ∧ ∀ i, kindOf F i = 2 → 0 ≠ mp i) := Lib.hid (fun e => absurd (show x.kind = 2 from e) (by rw [HXK3.out]; decide))
    have HFR : Hid (w6.heap.size ≠ fs ∧ w6.heap.size ≠ nb ∧ B ≤ w6.heap.size) := Lib.hid (by have := HBW.out.size; exact ⟨by omega, by omega, by omega⟩)
    clear hF7 hN7 hn8 hm8 hm8' hb37 hmu hV hnames hz8
    go_upto_region 21 with (fail)
    go_region
    all_goals
      have s8 := (HM8.out.block fs (by have := HB37.out.size; omega) (fun e => by
        obtain ⟨es, clk, e1⟩ := HF7.out.mapBlock HKU.out
        have e2 := HF7.out.self
        rw [e, e1] at e2
        cases e2)).trans HF7.out.self
      have nm : nb ≠ mp up := (fun e => by
        obtain ⟨es, clk, e1⟩ := HF7.out.mapBlock HKU.out
        obtain ⟨cs, f, e2⟩ := HF7.out.rowBlock
        rw [e, e1] at e2
        cases e2)
      have nf : nb ≠ fs := (fun e => by
        obtain ⟨cs, f, e2⟩ := HF7.out.rowBlock
        have e3 := HF7.out.self
        rw [e, e3] at e2
        injection e2 with e2
        injection e2 with _ e2 _
        exact absurd e2 (by decide))
      have r8 := row_same HF7.out.row (HM8.out.block nb (row_lt HF7.out.row) nm)
      have v1 : w8.cell? ⟨fs, 0, none⟩ = some (.slice (some ⟨nb, 0, none⟩) N c2) := (by rw [HNN.out]; exact one_block s8 0)
      have v2 := one_free s8 0
      have lfs8 := (Array.getElem?_eq_some_iff.1 s8).1
      have hcap2 : N ≤ c2 := (by
        obtain ⟨cur, _, e3, _⟩ := row_block r8
        rw [HNN.out]; exact e3)
      have HS8 := Lib.hid s8
      have HR8 := Lib.hid r8
      clear s8 r8 hmu' z1 z2
      go_wp2_with (first
        | (at_builtin; refine app_nd rfl (.tmp 102) (.tmp 104) rfl nb c2 N F ad HNN.out rfl (World.ownsRow.alloc HR8.out _) (.iface 210 (.pointer (some ⟨w6.heap.size, 0, none⟩))) rfl w8.heap.size 1 rfl (heap_alloc_new _ _) (by omega) ?_; intro g9 c9 w9 ho9 hg9 hat9 hlt9; have s9 := (hg9.block fs (by simp; omega) (by simpa using fun e => nf (Eq.symm e))).trans ((Below.heap_alloc _ _ _ (by omega)).trans HS8.out); have v3 := one_block s9 0; have v4 := one_free s9 0; have HS9 := Lib.hid s9; have HG9 := Lib.hid hg9; have HO9 := Lib.hid ho9; have HAT9 := Lib.hid hat9; clear s9 hg9 ho9 hat9)
        | fail)
      go_ret
      obtain ⟨hfin1, hfin2⟩ := fs_added (y := newNd x up s) (up := up) HF7.out rfl hup HKU.out (by have h9 := HOK.out.1; rw [← HL.out, HSL.out] at h9; exact h9) HN7.out HFR.out.1 HFR.out.2.1 HFR.out.2.2 HMQ.out HN8.out HM8.out HG9.out (by have h9 := HO9.out; have e9 : nodeV (newNd x up s).kind (w6.heap.size) = .iface 210 (.pointer (some ⟨w6.heap.size, 0, none⟩)) := (by show nodeV x.kind _ = _; rw [HXK3.out]; rfl); rw [e9]; exact h9) HAT9.out
      rw [← HNN.out] at hfin1 hfin2
      have eL : (partsOf x.path).getLastD ⟨#[]⟩ = s := (by rw [← HL.out]; exact HSL.out)
      refine ⟨rfl, ⟨g9, c9, upd ad N (w6.heap.size), upd mp N (0), (by rw [eL]; exact hfin1)⟩, ?_⟩
      exact (HBW.out.mono hB).trans ((HB37.out.mono (by have := HBW.out.size; omega)).trans hfin2))
  · have hkk : ((x.kind : Nat) : Int) = 2 := by omega
    have t1 : (((x.kind : Nat) : Int) == 2) = true := by rw [hkk]; decide
    have HXK3 := Lib.hid hxk
    have hmm := @run_makeMap Tryz.prog
    clear hxk hkk
    go_upto_region 21 with (fail)
    obtain ⟨w7, hw7⟩ : ∃ w7, w7 = (w4.alloc (.map #[] 0)).alloc (.cells #[.int .u8 (x.kind : Int), .int .u16 (x.mode : Int), .int .u32 (x.uid : Int), .int .u32 (x.gid : Int), .int .i64 (x.n : Int), .int .i64 (N : Int), .pointer (some ⟨ad up, 0, none⟩), .string s, .map (some w4.heap.size)] 150) := ⟨_, rfl⟩
    rw [← hw7]
    have hX7 : w7.heap[w4.heap.size + 1]? = some (.cells #[.int .u8 (x.kind : Int), .int .u16 (x.mode : Int), .int .u32 (x.uid : Int), .int .u32 (x.gid : Int), .int .i64 (x.n : Int), .int .i64 (N : Int), .pointer (some ⟨ad up, 0, none⟩), .string s, .map (some w4.heap.size)] 150 (0, 0)) := by
      rw [hw7]
      have e : (w4.alloc (.map #[] 0)).heap.size = w4.heap.size + 1 := by simp
      rw [← e]
      exact heap_alloc_new _ _
    have hM7 : w7.heap[w4.heap.size]? = some (.map #[] 0) := by rw [hw7]; exact (Below.heap_alloc _ _ _ (by simp)).trans (heap_alloc_new _ _)
    have hbe7 : Below w4.heap.size w4 w7 := by rw [hw7]; exact ((Below.refl _ _).alloc (Nat.le_refl _) _).alloc (by simp) _
    have hmapl : ∀ i, kindOf F i = 2 → mp i < w3.heap.size := fun i hi => by
      obtain ⟨es, clk, e1⟩ := HF3.out.mapBlock hi
      exact (Array.getElem?_eq_some_iff.1 e1).1
    have HM7 := Lib.hid hM7
    have HMPL := Lib.hid hmapl
    clear hw7 hmm hM7 hmapl
    have hz7 := hbe7.size
    have hb37 : Below w3.heap.size w3 w7 := HBE4.out.trans (hbe7.mono hz4)
    have hF7 := HF3.out.below hb37
    have hN7 : NodeAt w7 (w4.heap.size + 1) F.length (w4.heap.size) (ad up) (newNd x up s) := ⟨_, _, (by rw [← HNN.out]; exact hX7), (fun _ => ⟨rfl, rfl⟩), (fun e => absurd (show x.kind = 1 from e) (by rw [HXK3.out]; decide)), (fun e => absurd (show x.kind = 3 from e) (by rw [HXK3.out]; decide))⟩
    have hfsl := (Array.getElem?_eq_some_iff.1 HF3.out.self).1
    have hnbl := row_lt HF3.out.row
    have hV : (nodeV (kindOf (F ++ [newNd x up s]) F.length) (upd ad F.length (w4.heap.size + 1) F.length)) = .iface 143 (.pointer (some ⟨w4.heap.size + 1, 0, none⟩)) := (by
      rw [upd_same]
      have e : kindOf (F ++ [newNd x up s]) F.length = x.kind := (by
        unfold kindOf
        rw [List.getElem?_append_right (Nat.le_refl _)]
        simp [newNd])
      rw [e, HXK3.out]
      rfl)
    have hnames : NamesAt w7.drew (mp up) (namesOf F up) (fun j => nodeV (kindOf (F ++ [newNd x up s]) j) (upd ad F.length (w4.heap.size + 1) j)) := ((hF7.names up HKU.out).congr (fun y hy => (by
      have hl := (namesOf_mem hy).1
      rw [kindOf_snoc _ hl, upd_ne _ _ (by omega)]))).same rfl
    obtain ⟨w8, hmu, hn8, hm8', hz8⟩ := hnames.put s F.length HFREE.out
    have hm8 : Mod (fun b => b = mp up) w7 w8 := hm8'.undrew
    have hmu' : (Instr.mapUpdate 148 (.map (some (mp up))) (.string s) (.iface 143 (.pointer (some ⟨w4.heap.size + 1, 0, none⟩)))).run Tryz.prog w7.drew = .ok () w8 := (by rw [← hV]; exact hmu)
    have z1 : w7.cell? ⟨ad up, 8, none⟩ = some (.map (some (mp up))) := hF7.mapCell HKU.out
    have z2 : w7.cell? ⟨g, m, none⟩ = some (.string s) := (hb37.cell (p := ⟨g, m, none⟩) hg2).trans cg
    have HF7 := Lib.hid hF7
    have HN7 := Lib.hid hN7
    have HN8 := Lib.hid hn8
    have HM8 := Lib.hid hm8
    have HB37 := Lib.hid hb37
    have HMQ : Hid ((newNd x up s).kind = 2 → (∃ clk, w7.heap[w4.heap.size]? = some (.map #[] clk)) ∧ B ≤ w4.heap.size ∧ ∀ i, kindOf F i = 2 → w4.heap.size ≠ mp i) := Lib.hid (fun _ => ⟨⟨0, HM7.out⟩, (by have := HBW.out.size; omega), (fun i hi => by have := HMPL.out i hi; omega)⟩)
    have HFR : Hid (w4.heap.size + 1 ≠ fs ∧ w4.heap.size + 1 ≠ nb ∧ B ≤ w4.heap.size + 1) := Lib.hid (by have := HBW.out.size; exact ⟨by omega, by omega, by omega⟩)
    clear hF7 hN7 hn8 hm8 hm8' hb37 hmu hV hnames hz8
    go_upto_region 21 with (fail)
    go_region
    all_goals
      have s8 := (HM8.out.block fs (by have := HB37.out.size; omega) (fun e => by
        obtain ⟨es, clk, e1⟩ := HF7.out.mapBlock HKU.out
        have e2 := HF7.out.self
        rw [e, e1] at e2
        cases e2)).trans HF7.out.self
      have nm : nb ≠ mp up := (fun e => by
        obtain ⟨es, clk, e1⟩ := HF7.out.mapBlock HKU.out
        obtain ⟨cs, f, e2⟩ := HF7.out.rowBlock
        rw [e, e1] at e2
        cases e2)
      have nf : nb ≠ fs := (fun e => by
        obtain ⟨cs, f, e2⟩ := HF7.out.rowBlock
        have e3 := HF7.out.self
        rw [e, e3] at e2
        injection e2 with e2
        injection e2 with _ e2 _
        exact absurd e2 (by decide))
      have r8 := row_same HF7.out.row (HM8.out.block nb (row_lt HF7.out.row) nm)
      have v1 : w8.cell? ⟨fs, 0, none⟩ = some (.slice (some ⟨nb, 0, none⟩) N c2) := (by rw [HNN.out]; exact one_block s8 0)
      have v2 := one_free s8 0
      have lfs8 := (Array.getElem?_eq_some_iff.1 s8).1
      have hcap2 : N ≤ c2 := (by
        obtain ⟨cur, _, e3, _⟩ := row_block r8
        rw [HNN.out]; exact e3)
      have HS8 := Lib.hid s8
      have HR8 := Lib.hid r8
      clear s8 r8 hmu' z1 z2
      go_wp2_with (first
        | (at_builtin; refine app_nd rfl (.tmp 102) (.tmp 104) rfl nb c2 N F ad HNN.out rfl (World.ownsRow.alloc HR8.out _) (.iface 143 (.pointer (some ⟨w4.heap.size + 1, 0, none⟩))) rfl w8.heap.size 1 rfl (heap_alloc_new _ _) (by omega) ?_; intro g9 c9 w9 ho9 hg9 hat9 hlt9; have s9 := (hg9.block fs (by simp; omega) (by simpa using fun e => nf (Eq.symm e))).trans ((Below.heap_alloc _ _ _ (by omega)).trans HS8.out); have v3 := one_block s9 0; have v4 := one_free s9 0; have HS9 := Lib.hid s9; have HG9 := Lib.hid hg9; have HO9 := Lib.hid ho9; have HAT9 := Lib.hid hat9; clear s9 hg9 ho9 hat9)
        | fail)
      go_ret
      obtain ⟨hfin1, hfin2⟩ := fs_added (y := newNd x up s) (up := up) HF7.out rfl hup HKU.out (by have h9 := HOK.out.1; rw [← HL.out, HSL.out] at h9; exact h9) HN7.out HFR.out.1 HFR.out.2.1 HFR.out.2.2 HMQ.out HN8.out HM8.out HG9.out (by have h9 := HO9.out; have e9 : nodeV (newNd x up s).kind (w4.heap.size + 1) = .iface 143 (.pointer (some ⟨w4.heap.size + 1, 0, none⟩)) := (by show nodeV x.kind _ = _; rw [HXK3.out]; rfl); rw [e9]; exact h9) HAT9.out
      rw [← HNN.out] at hfin1 hfin2
      have eL : (partsOf x.path).getLastD ⟨#[]⟩ = s := (by rw [← HL.out]; exact HSL.out)
      refine ⟨rfl, ⟨g9, c9, upd ad N (w4.heap.size + 1), upd mp N (w4.heap.size), (by rw [eL]; exact hfin1)⟩, ?_⟩
      exact (HBW.out.mono hB).trans ((HB37.out.mono (by have := HBW.out.size; omega)).trans hfin2)
  · have hkk : ((x.kind : Nat) : Int) = 3 := by omega
    have t1 : (((x.kind : Nat) : Int) == 2) = false := by rw [hkk]; decide
    have t2 : (((x.kind : Nat) : Int) == 1) = false := by rw [hkk]; decide
    have HXK3 := Lib.hid hxk
    clear hxk hkk
    go_upto_region 21 with (fail)
    obtain ⟨w7, hw7⟩ : ∃ w7, w7 = w4.alloc (.cells #[.int .u8 (x.kind : Int), .int .u16 (x.mode : Int), .int .u32 (x.uid : Int), .int .u32 (x.gid : Int), .int .i64 (x.n : Int), .int .i64 (N : Int), .pointer (some ⟨ad up, 0, none⟩), .string s, .string x.to] 215) := ⟨_, rfl⟩
    rw [← hw7]
    have hX7 : w7.heap[w4.heap.size]? = some (.cells #[.int .u8 (x.kind : Int), .int .u16 (x.mode : Int), .int .u32 (x.uid : Int), .int .u32 (x.gid : Int), .int .i64 (x.n : Int), .int .i64 (N : Int), .pointer (some ⟨ad up, 0, none⟩), .string s, .string x.to] 215 (0, 0)) := by rw [hw7]; exact heap_alloc_new w4 _
    have hbe7 : Below w4.heap.size w4 w7 := by rw [hw7]; exact (Below.refl _ _).alloc (Nat.le_refl _) _
    clear hw7
    have hz7 := hbe7.size
    have hb37 : Below w3.heap.size w3 w7 := HBE4.out.trans (hbe7.mono hz4)
    have hF7 := HF3.out.below hb37
    have hN7 : NodeAt w7 (w4.heap.size) F.length (0) (ad up) (newNd x up s) := ⟨_, _, (by rw [← HNN.out]; exact hX7), (fun e => absurd (show x.kind = 2 from e) (by rw [HXK3.out]; decide)), (fun e => absurd (show x.kind = 1 from e) (by rw [HXK3.out]; decide)), (fun _ => ⟨rfl, rfl⟩)⟩
    have hfsl := (Array.getElem?_eq_some_iff.1 HF3.out.self).1
    have hnbl := row_lt HF3.out.row
    have hV : (nodeV (kindOf (F ++ [newNd x up s]) F.length) (upd ad F.length (w4.heap.size) F.length)) = .iface 213 (.pointer (some ⟨w4.heap.size, 0, none⟩)) := (by
      rw [upd_same]
      have e : kindOf (F ++ [newNd x up s]) F.length = x.kind := (by
        unfold kindOf
        rw [List.getElem?_append_right (Nat.le_refl _)]
        simp [newNd])
      rw [e, HXK3.out]
      rfl)
    have hnames : NamesAt w7.drew (mp up) (namesOf F up) (fun j => nodeV (kindOf (F ++ [newNd x up s]) j) (upd ad F.length (w4.heap.size) j)) := ((hF7.names up HKU.out).congr (fun y hy => (by
      have hl := (namesOf_mem hy).1
      rw [kindOf_snoc _ hl, upd_ne _ _ (by omega)]))).same rfl
    obtain ⟨w8, hmu, hn8, hm8', hz8⟩ := hnames.put s F.length HFREE.out
    have hm8 : Mod (fun b => b = mp up) w7 w8 := hm8'.undrew
    have hmu' : (Instr.mapUpdate 148 (.map (some (mp up))) (.string s) (.iface 213 (.pointer (some ⟨w4.heap.size, 0, none⟩)))).run Tryz.prog w7.drew = .ok () w8 := (by rw [← hV]; exact hmu)
    have z1 : w7.cell? ⟨ad up, 8, none⟩ = some (.map (some (mp up))) := hF7.mapCell HKU.out
    have z2 : w7.cell? ⟨g, m, none⟩ = some (.string s) := (hb37.cell (p := ⟨g, m, none⟩) hg2).trans cg
    have HF7 := Lib.hid hF7
    have HN7 := Lib.hid hN7
    have HN8 := Lib.hid hn8
    have HM8 := Lib.hid hm8
    have HB37 := Lib.hid hb37
    have HMQ : Hid ((newNd x up s).kind = 2 → (∃ clk, w7.heap[0]? = some (.map #[] clk)) ∧ B ≤ 0 ∧ ∀ i, kindOf F i = 2 → 0 ≠ mp i) := Lib.hid (fun e => absurd (show x.kind = 2 from e) (by rw [HXK3.out]; decide))
    have HFR : Hid (w4.heap.size ≠ fs ∧ w4.heap.size ≠ nb ∧ B ≤ w4.heap.size) := Lib.hid (by have := HBW.out.size; exact ⟨by omega, by omega, by omega⟩)
    clear hF7 hN7 hn8 hm8 hm8' hb37 hmu hV hnames hz8
    go_upto_region 21 with (fail)
    go_region
    all_goals
      have s8 := (HM8.out.block fs (by have := HB37.out.size; omega) (fun e => by
        obtain ⟨es, clk, e1⟩ := HF7.out.mapBlock HKU.out
        have e2 := HF7.out.self
        rw [e, e1] at e2
        cases e2)).trans HF7.out.self
      have nm : nb ≠ mp up := (fun e => by
        obtain ⟨es, clk, e1⟩ := HF7.out.mapBlock HKU.out
        obtain ⟨cs, f, e2⟩ := HF7.out.rowBlock
        rw [e, e1] at e2
        cases e2)
      have nf : nb ≠ fs := (fun e => by
        obtain ⟨cs, f, e2⟩ := HF7.out.rowBlock
        have e3 := HF7.out.self
        rw [e, e3] at e2
        injection e2 with e2
        injection e2 with _ e2 _
        exact absurd e2 (by decide))
      have r8 := row_same HF7.out.row (HM8.out.block nb (row_lt HF7.out.row) nm)
      have v1 : w8.cell? ⟨fs, 0, none⟩ = some (.slice (some ⟨nb, 0, none⟩) N c2) := (by rw [HNN.out]; exact one_block s8 0)
      have v2 := one_free s8 0
      have lfs8 := (Array.getElem?_eq_some_iff.1 s8).1
      have hcap2 : N ≤ c2 := (by
        obtain ⟨cur, _, e3, _⟩ := row_block r8
        rw [HNN.out]; exact e3)
      have HS8 := Lib.hid s8
      have HR8 := Lib.hid r8
      clear s8 r8 hmu' z1 z2
      go_wp2_with (first
        | (at_builtin; refine app_nd rfl (.tmp 102) (.tmp 104) rfl nb c2 N F ad HNN.out rfl (World.ownsRow.alloc HR8.out _) (.iface 213 (.pointer (some ⟨w4.heap.size, 0, none⟩))) rfl w8.heap.size 1 rfl (heap_alloc_new _ _) (by omega) ?_; intro g9 c9 w9 ho9 hg9 hat9 hlt9; have s9 := (hg9.block fs (by simp; omega) (by simpa using fun e => nf (Eq.symm e))).trans ((Below.heap_alloc _ _ _ (by omega)).trans HS8.out); have v3 := one_block s9 0; have v4 := one_free s9 0; have HS9 := Lib.hid s9; have HG9 := Lib.hid hg9; have HO9 := Lib.hid ho9; have HAT9 := Lib.hid hat9; clear s9 hg9 ho9 hat9)
        | fail)
      go_ret
      obtain ⟨hfin1, hfin2⟩ := fs_added (y := newNd x up s) (up := up) HF7.out rfl hup HKU.out (by have h9 := HOK.out.1; rw [← HL.out, HSL.out] at h9; exact h9) HN7.out HFR.out.1 HFR.out.2.1 HFR.out.2.2 HMQ.out HN8.out HM8.out HG9.out (by have h9 := HO9.out; have e9 : nodeV (newNd x up s).kind (w4.heap.size) = .iface 213 (.pointer (some ⟨w4.heap.size, 0, none⟩)) := (by show nodeV x.kind _ = _; rw [HXK3.out]; rfl); rw [e9]; exact h9) HAT9.out
      rw [← HNN.out] at hfin1 hfin2
      have eL : (partsOf x.path).getLastD ⟨#[]⟩ = s := (by rw [← HL.out]; exact HSL.out)
      refine ⟨rfl, ⟨g9, c9, upd ad N (w4.heap.size), upd mp N (0), (by rw [eL]; exact hfin1)⟩, ?_⟩
      exact (HBW.out.mono hB).trans ((HB37.out.mono (by have := HBW.out.size; omega)).trans hfin2)

end Go.Proofs.YtkkmcnngpahfaaaGreatDoor

namespace Go.Proofs.YtkkmcnngpahfaaaGreatDoor
open Go.RowKit Go.Sort
set_option linter.unusedSimpArgs false
set_option linter.unusedVariables false

/-- An entry's bytes in memory, and what its parts may be. -/
structure EntAt (w : World) (x : Ent) (A : Option Addr) (c : Nat) : Prop where
  path : x.path.size ≤ 1000000000
  link : x.to.size ≤ 1000000000
  n : x.n ≤ 9223372036854775807
  data : BytesV w A x.n x.dat
  ok : SliceOk A x.n c
theorem EntAt.below {w w' : World} {x : Ent} {A : Option Addr} {c : Nat} (h : EntAt w x A c) (hb : Below w.heap.size w w') : EntAt w' x A c :=
  ⟨h.path, h.link, h.n, h.data.kept hb, h.ok⟩
theorem vadd_any (B fs nb c2 c : Nat) (ad mp : Nat → Nat) (F : List Nd) (x : Ent) (A : Option Addr) (w : World) (h : FsIs w B fs nb c2 ad mp F) (hx : EntAt w x A c) (hB : B ≤ w.heap.size) (hF : F.length ≤ 1000) :
    Calls Tryz.prog 84 #[.pointer (some ⟨fs, 0, none⟩), x.val A c] w (AddPostG B fs F x w) := by
  by_cases hm : may x = 0
  · cases ha : atM F 0 (partsOf x.path) with
    | some j => exact vadd_there B fs nb c2 c j ad mp F x A w h hx.path hx.link hx.n hB hm hF ha
    | none =>
      cases ha2 : atM F 0 (partsOf x.path).dropLast with
      | none => exact vadd_noent B fs nb c2 c ad mp F x A w h hx.path hx.link hx.n hB hm hF ha ha2
      | some up =>
        by_cases hk : kindOf F up = 2
        · exact vadd_done B fs nb c2 c up ad mp F x A w h hx.path hx.link hx.n hB hm hF hx.data hx.ok ha ha2 hk
        · exact vadd_notdir B fs nb c2 c up ad mp F x A w h hx.path hx.link hx.n hB hm hF ha ha2 hk
  · exact vadd_bad B fs nb c2 c ad mp F x A w h hx.path hx.link hx.n hB hm

/-- A row of entries, each seven cells. -/
def EntCells (w : World) (g j : Nat) (x : Ent) (A : Option Addr) (c : Nat) : Prop :=
  w.cell? ⟨g, j * 7, none⟩ = some (.string x.path) ∧ w.cell? ⟨g, j * 7 + 1, none⟩ = some (.int .u8 (x.kind : Int)) ∧ w.cell? ⟨g, j * 7 + 2, none⟩ = some (.int .u16 (x.mode : Int)) ∧ w.cell? ⟨g, j * 7 + 3, none⟩ = some (.int .u32 (x.uid : Int)) ∧
  w.cell? ⟨g, j * 7 + 4, none⟩ = some (.int .u32 (x.gid : Int)) ∧ w.cell? ⟨g, j * 7 + 5, none⟩ = some (.slice A x.n c) ∧ w.cell? ⟨g, j * 7 + 6, none⟩ = some (.string x.to)
def EntsAt (w : World) (P : Option Addr) (l : List Ent) : Prop := ∀ (j : Nat) (x : Ent), l[j]? = some x → ∃ g A c, P = some ⟨g, 0, none⟩ ∧ g < w.heap.size ∧ EntCells w g j x A c ∧ EntAt w x A c
theorem EntsAt.below {w w' : World} {P : Option Addr} {l : List Ent} (h : EntsAt w P l) (hb : Below w.heap.size w w') : EntsAt w' P l := fun j x hx => by
  obtain ⟨g, A, c, h1, h2, ⟨c0, c1, c2, c3, c4, c5, c6⟩, h4⟩ := h j x hx
  have hc : ∀ i, w'.cell? ⟨g, i, none⟩ = w.cell? ⟨g, i, none⟩ := fun i => hb.cell (p := ⟨g, i, none⟩) h2
  refine ⟨g, A, c, h1, Nat.lt_of_lt_of_le h2 hb.size, ⟨?_, ?_, ?_, ?_, ?_, ?_, ?_⟩, h4.below hb⟩
  all_goals (rw [hc]; assumption)

theorem newM_step {F : List Nd} {i : Nat} {x : Ent} {l : List Ent} (h : (addM F x).1 = 0) : newM F i (x :: l) = newM (addM F x).2 (i + 1) l := by
  rw [newM, if_neg (by omega)]
theorem newM_stop {F : List Nd} {i : Nat} {x : Ent} {l : List Ent} (h : (addM F x).1 ≠ 0) : newM F i (x :: l) = ((addM F x).1, (i : Int), F) := by
  rw [newM, if_pos h]

/-- What New answers. -/
def VNewPostG (l : List Ent) (w : World) (e : Ending) (w' : World) : Prop :=
  if 64 < l.length then e = .returned (.tuple #[.pointer none, .int .i64 15, .int .i64 (-1)]) ∧ Below w.heap.size w w'
  else if (newM [rootNd] 0 l).1 ≠ 0 then e = .returned (.tuple #[.pointer none, .int .i64 (newM [rootNd] 0 l).1, .int .i64 (newM [rootNd] 0 l).2.1]) ∧ Below w.heap.size w w'
  else ∃ fs nb c2 ad mp, e = .returned (.tuple #[.pointer (some ⟨fs, 0, none⟩), .int .i64 0, .int .i64 0]) ∧ FsIs w' w.heap.size fs nb c2 ad mp (newM [rootNd] 0 l).2.2 ∧ Below w.heap.size w w'
theorem fs_root (w : World) : FsIs ((((w.alloc (.map #[] 0)).alloc (.cells #[.int .u8 2, .int .u16 493, .int .u32 0, .int .u32 0, .int .i64 0, .int .i64 0, .pointer (some ⟨w.heap.size + 1, 0, none⟩), .string ⟨#[]⟩, .map (some w.heap.size)] 150)).alloc (.cells #[.iface 143 (.pointer (some ⟨w.heap.size + 1, 0, none⟩))] 207)).alloc (.cells #[.slice (some ⟨w.heap.size + 1 + 1, 0, none⟩) 1 1] 153))
    w.heap.size (w.heap.size + 1 + 1 + 1) (w.heap.size + 1 + 1) 1 (fun _ => w.heap.size + 1) (fun _ => w.heap.size) [rootNd] := by
  have k0 : kindOf [rootNd] 0 = 2 := rfl
  have ks : ∀ i, kindOf [rootNd] i = 2 → i = 0 := fun i h => by have := kindOf_lt h (by omega); simp at this; exact this
  obtain ⟨w1, hw1⟩ : ∃ w1, w1 = w.alloc (.map #[] 0) := ⟨_, rfl⟩
  obtain ⟨w2, hw2⟩ : ∃ w2, w2 = w1.alloc (.cells #[.int .u8 2, .int .u16 493, .int .u32 0, .int .u32 0, .int .i64 0, .int .i64 0, .pointer (some ⟨w.heap.size + 1, 0, none⟩), .string ⟨#[]⟩, .map (some w.heap.size)] 150) := ⟨_, rfl⟩
  obtain ⟨w3, hw3⟩ : ∃ w3, w3 = w2.alloc (.cells #[.iface 143 (.pointer (some ⟨w.heap.size + 1, 0, none⟩))] 207) := ⟨_, rfl⟩
  rw [← hw1, ← hw2, ← hw3]
  have z1 : w1.heap.size = w.heap.size + 1 := by rw [hw1]; simp
  have z2 : w2.heap.size = w.heap.size + 1 + 1 := by rw [hw2]; simp [z1]
  have z3 : w3.heap.size = w.heap.size + 1 + 1 + 1 := by rw [hw3]; simp [z2]
  have p0 : w3.heap[w.heap.size]? = some (.map #[] 0) := by
    rw [hw3, hw2, hw1]
    exact (Below.heap_alloc _ _ _ (by simp; omega)).trans ((Below.heap_alloc _ _ _ (by simp)).trans (heap_alloc_new _ _))
  have p1 : w3.heap[w.heap.size + 1]? = some (.cells #[.int .u8 2, .int .u16 493, .int .u32 0, .int .u32 0, .int .i64 0, .int .i64 0, .pointer (some ⟨w.heap.size + 1, 0, none⟩), .string ⟨#[]⟩, .map (some w.heap.size)] 150 (0, 0)) := by
    have h9 := heap_alloc_new w1 (.cells #[.int .u8 2, .int .u16 493, .int .u32 0, .int .u32 0, .int .i64 0, .int .i64 0, .pointer (some ⟨w.heap.size + 1, 0, none⟩), .string ⟨#[]⟩, .map (some w.heap.size)] 150)
    rw [z1, ← hw2] at h9
    rw [hw3]
    exact (Below.heap_alloc _ _ _ (by omega)).trans h9
  have p2 : w3.heap[w.heap.size + 1 + 1]? = some (.cells #[.iface 143 (.pointer (some ⟨w.heap.size + 1, 0, none⟩))] 207 (0, 0)) := by
    have h9 := heap_alloc_new w2 (.cells #[.iface 143 (.pointer (some ⟨w.heap.size + 1, 0, none⟩))] 207)
    rw [z2, ← hw3] at h9
    exact h9
  have q : ∀ b, b < w3.heap.size → (w3.alloc (.cells #[.slice (some ⟨w.heap.size + 1 + 1, 0, none⟩) 1 1] 153)).heap[b]? = w3.heap[b]? := fun b hb => Below.heap_alloc _ _ _ hb
  refine ⟨FOk.start, ?_, ⟨rfl, .inr ⟨w.heap.size + 1 + 1, 1, _, rfl, Nat.zero_le _, (q _ (by omega)).trans p2, Nat.le_refl _, by decide, rfl, rfl⟩⟩, ?_, ?_, ?_, by omega, by omega, fun _ _ => by omega, fun _ _ => by omega⟩
  · rw [← z3]; exact heap_alloc_new _ _
  · intro i y hy
    cases i with
    | zero =>
      simp at hy
      subst hy
      exact ⟨_, _, (q _ (by omega)).trans p1, (fun _ => ⟨rfl, rfl⟩), (fun e => by cases e), (fun e => by cases e)⟩
    | succ i => simp at hy
  · intro i hi
    obtain rfl := ks i hi
    exact ⟨#[], 0, (q _ (by omega)).trans p0, ⟨by simp, by simp, by simp⟩, rfl⟩
  · intro i j hi hj _
    rw [ks i hi, ks j hj]

set_option maxRecDepth 100000 in
set_option maxHeartbeats 4000000 in
theorem vnew_any (P : Option Addr) (n cap : Nat) (l : List Ent) (w : World) (hl : EntsAt w P l) (hn : n = l.length) (hcap : n ≤ cap) (hbig : n ≤ 9223372036854775807) :
    Calls Tryz.prog 23 #[.slice P n cap] w (VNewPostG l w) := by
  by_cases h64 : 64 < n
  · have hv : ∀ e w', (e = .returned (.tuple #[.pointer none, .int .i64 15, .int .i64 (-1)]) ∧ Below w.heap.size w w') → VNewPostG l w e w' := fun e w' h => by
      unfold VNewPostG
      rw [if_pos (by omega)]
      exact h
    have HV := Lib.hid hv
    clear hv hl hn
    go_enter Tryz.func23, Tryz.ntmps23
    go_wp2_with fail
    go_ret3
    exact HV.out _ _ ⟨rfl, Below.refl _ _⟩
  have hroot := fs_root w
  obtain ⟨w0, hw0⟩ : ∃ w0, w0 = ((((w.alloc (.map #[] 0)).alloc (.cells #[.int .u8 2, .int .u16 493, .int .u32 0, .int .u32 0, .int .i64 0, .int .i64 0, .pointer (some ⟨w.heap.size + 1, 0, none⟩), .string ⟨#[]⟩, .map (some w.heap.size)] 150)).alloc (.cells #[.iface 143 (.pointer (some ⟨w.heap.size + 1, 0, none⟩))] 207)).alloc (.cells #[.slice (some ⟨w.heap.size + 1 + 1, 0, none⟩) 1 1] 153)) := ⟨_, rfl⟩
  rw [← hw0] at hroot
  have hb0 : Below w.heap.size w w0 := by
    rw [hw0]
    exact ((((Below.refl _ _).alloc (Nat.le_refl _) _).alloc (by simp) _).alloc (by simp; omega) _).alloc (by simp; omega) _
  have HW0 := Lib.hid hw0
  have HB0 := Lib.hid hb0
  have HROOT := Lib.hid hroot
  have HLN := Lib.hid hn
  have HL0 := Lib.hid hl
  have hmm := @run_makeMap Tryz.prog
  clear hb0 hw0 hroot hn hl
  go_enter Tryz.func23, Tryz.ntmps23
  go_upto_region 6 with (fail)
  rw [← HW0.out]
  clear hmm
  go_wp2_with fail
  go_loopw [30] (fun i wr => ∃ k F nb c2 ad mp, k ≤ n ∧ i = .int .i64 ((k : Nat) : Int) ∧ FsIs wr w.heap.size (w.heap.size + 1 + 1 + 1) nb c2 ad mp F ∧ newM [rootNd] 0 l = newM F k (l.drop k) ∧ F.length = k + 1 ∧ Below w.heap.size w wr) (fun i _ => n - (intOf i).toNat)
  case atStart => exact ⟨0, [rootNd], _, _, _, _, by omega, rfl, HROOT.out, rfl, rfl, HB0.out⟩
  case round =>
    obtain ⟨k, F, nb, c2, ad, mp, hk, rfl, hF, hnew, hlen, hbe⟩ := hrel
    have HF := Lib.hid hF
    have HNEW := Lib.hid hnew
    have HLEN := Lib.hid hlen
    have HBE := Lib.hid hbe
    have hwz := hbe.size
    clear hF hnew hlen hbe
    by_cases hlt : k < n
    · obtain ⟨x, hx⟩ : ∃ x, l[k]? = some x := ⟨_, List.getElem?_eq_getElem (by rw [← HLN.out]; exact hlt)⟩
      have hdrop : l.drop k = x :: l.drop (k + 1) := (List.drop_eq_getElem_cons (by rw [← HLN.out]; exact hlt)).trans (by
        obtain ⟨h1, h2⟩ := List.getElem?_eq_some_iff.1 hx
        rw [h2])
      obtain ⟨g, A, c, rfl, hg, ⟨c0, c1, c2', c3, c4, c5, c6⟩, hE⟩ := (HL0.out.below HBE.out) k x hx
      have hF1 := HF.out.below ((Below.refl wr.heap.size wr).alloc (Nat.le_refl _) (.cells #[.string x.path, .int .u8 (x.kind : Int), .int .u16 (x.mode : Int), .int .u32 (x.uid : Int), .int .u32 (x.gid : Int), .slice A x.n c, .string x.to] 106))
      have hE1 := hE.below ((Below.refl wr.heap.size wr).alloc (Nat.le_refl _) (.cells #[.string x.path, .int .u8 (x.kind : Int), .int .u16 (x.mode : Int), .int .u32 (x.uid : Int), .int .u32 (x.gid : Int), .slice A x.n c, .string x.to] 106))
      have hadd := vadd_any w.heap.size (w.heap.size + 1 + 1 + 1) nb c2 c ad mp F x A _ hF1 hE1 (by simp; omega) (by have := HLEN.out; omega)
      unfold Ent.val AddPostG at hadd
      obtain ⟨r, hr⟩ : ∃ r, r = (addM F x).1 := ⟨_, rfl⟩
      rw [← hr] at hadd
      have HADD := Lib.hid hadd
      have HDR := Lib.hid hdrop
      have hfr : Below w.heap.size w (wr.alloc (.cells #[.string x.path, .int .u8 (x.kind : Int), .int .u16 (x.mode : Int), .int .u32 (x.uid : Int), .int .u32 (x.gid : Int), .slice A x.n c, .string x.to] 106)) := HBE.out.alloc hwz _
      have HFR := Lib.hid hfr
      by_cases hr0 : r = 0
      · have hr' : (addM F x).1 = 0 := by rw [← hr]; exact hr0
        have hlen2 := (addM_ok HF.out.ok hr').2.1
        have HN2 := Lib.hid (show newM [rootNd] 0 l = newM (addM F x).2 (k + 1) (l.drop (k + 1)) by rw [HNEW.out, HDR.out, newM_step hr'])
        have HLEN2 := Lib.hid (show (addM F x).2.length = k + 1 + 1 by rw [hlen2, HLEN.out])
        subst hr0
        clear hr hr' hadd hdrop hx hE hF1 hE1 hfr hlen2
        go_wp2_with (first
          | (go_at_call 84; refine (HADD.out).mono ?_; rintro e w2 ⟨rfl, ⟨nb2, c22, ad2, mp2, hF2⟩, hb2⟩; have HF2 := Lib.hid hF2; have HB2 := Lib.hid (HFR.out.trans hb2); clear hF2 hb2)
          | fail)
        go_roundw
        case rel => exact ⟨k + 1, _, nb2, c22, ad2, mp2, by omega, by go_num, HF2.out, HN2.out, HLEN2.out, HB2.out⟩
        case measure => simp [intOf]; omega
      · have hr' : (addM F x).1 ≠ 0 := by rw [← hr]; exact hr0
        have hne : (r != 0) = true := by rw [bne_iff_ne]; exact hr0
        have HN2 := Lib.hid (show newM [rootNd] 0 l = (r, (k : Int), F) by rw [HNEW.out, HDR.out, newM_stop hr', hr])
        have HR0 := Lib.hid hr0
        clear hr hr' hadd hdrop hx hE hF1 hE1 hfr hr0
        go_wp2_with (first
          | (go_at_call 84; refine (HADD.out).mono ?_; rintro e w2 ⟨rfl, _, hb2⟩; have HB2 := Lib.hid (HFR.out.trans hb2); clear hb2)
          | fail)
        go_ret3
        unfold VNewPostG
        rw [if_neg (by rw [← HLN.out]; exact h64), HN2.out, if_pos HR0.out]
        exact ⟨rfl, HB2.out⟩
    · obtain rfl : k = n := by omega
      have HN2 := Lib.hid (show newM [rootNd] 0 l = (0, 0, F) by rw [HNEW.out, List.drop_of_length_le (by rw [HLN.out]; exact Nat.le_refl _)]; rfl)
      go_wp2_with fail
      go_ret3
      unfold VNewPostG
      rw [if_neg (by rw [← HLN.out]; exact h64), HN2.out, if_neg (by simp)]
      exact ⟨_, nb, c2, ad, mp, rfl, HF.out, HBE.out⟩

end Go.Proofs.YtkkmcnngpahfaaaGreatDoor

namespace Go.Proofs.YtkkmcnngpahfaaaGreatDoor
open Go.RowKit Go.Sort
set_option linter.unusedSimpArgs false
set_option linter.unusedVariables false

theorem fnode_no (B fs nb c2 : Nat) (ad mp : Nat → Nat) (F : List Nd) (ino : Int) (w : World) (h : FsIs w B fs nb c2 ad mp F) (hi : ino < 0 ∨ (F.length : Int) ≤ ino) :
    Calls Tryz.prog 130 #[.pointer (some ⟨fs, 0, none⟩), .int .i64 ino] w fun e w' => e = .returned .nilIface ∧ w' = w := by
  have c0 : w.cell? ⟨fs, 0, none⟩ = some (.slice (some ⟨nb, 0, none⟩) F.length c2) := one_block h.self 0
  obtain ⟨N, hN⟩ : ∃ N, N = F.length := ⟨_, rfl⟩
  rw [← hN] at c0 hi
  clear h hN
  rcases hi with hi | hi
  · go_enter Tryz.func130, Tryz.ntmps130
    go_wp2_with fail
    go_ret
    exact ⟨rfl, rfl⟩
  · have hi0 : ¬ ino < 0 := by omega
    go_enter Tryz.func130, Tryz.ntmps130
    go_wp2_with fail
    go_ret
    exact ⟨rfl, rfl⟩
theorem fnode_yes (B fs nb c2 i : Nat) (ad mp : Nat → Nat) (F : List Nd) (w : World) (h : FsIs w B fs nb c2 ad mp F) (hi : i < F.length) :
    Calls Tryz.prog 130 #[.pointer (some ⟨fs, 0, none⟩), .int .i64 (i : Int)] w fun e w' => e = .returned (.iface (tyOf (kindOf F i)) (.pointer (some ⟨ad i, 0, none⟩))) ∧ w' = w := by
  have c0 : w.cell? ⟨fs, 0, none⟩ = some (.slice (some ⟨nb, 0, none⟩) F.length c2) := one_block h.self 0
  have c1 : w.cell? ⟨nb, i, none⟩ = some (.iface (tyOf (kindOf F i)) (.pointer (some ⟨ad i, 0, none⟩))) := h.cell hi
  obtain ⟨v, hv⟩ : ∃ v, v = Value.iface (tyOf (kindOf F i)) (.pointer (some ⟨ad i, 0, none⟩)) := ⟨_, rfl⟩
  rw [← hv] at c1 ⊢
  obtain ⟨N, hN⟩ : ∃ N, N = F.length := ⟨_, rfl⟩
  rw [← hN] at c0 hi
  have hi2 : (i : Int) < (N : Int) := by omega
  clear h hN hv
  go_enter Tryz.func130, Tryz.ntmps130
  go_wp2_with fail
  go_ret
  exact ⟨rfl, rfl⟩

set_option maxRecDepth 100000 in
theorem about_node (k a : Nat) (w : World) (n : Nat) (hn : n = Tryz.prog.types.size + Made.depth) : (method n (tyOf k) (.pointer (some ⟨a, 0, none⟩)) "hostel/vfs.about").run Tryz.prog w = .ok (196, .pointer (some ⟨a, 0, none⟩)) w := by
  subst hn
  unfold tyOf
  split
  · kernel_rfl
  · split <;> kernel_rfl
def metaV (y : Nd) : Value := .agg #[.int .u8 (y.kind : Int), .int .u16 (y.mode : Int), .int .u32 (y.uid : Int), .int .u32 (y.gid : Int), .int .i64 (y.n : Int)]
set_option maxHeartbeats 1000000 in
set_option maxRecDepth 100000 in
theorem fmeta_yes (B fs nb c2 i : Nat) (ad mp : Nat → Nat) (F : List Nd) (y : Nd) (w : World) (h : FsIs w B fs nb c2 ad mp F) (hy : F[i]? = some y) :
    Calls Tryz.prog 129 #[.pointer (some ⟨fs, 0, none⟩), .int .i64 (i : Int)] w fun e w' => e = .returned (.tuple #[metaV y, .int .i64 0]) ∧ Below w.heap.size w w' := by
  obtain ⟨w0, hw0⟩ : ∃ w0, w0 = w.alloc (.cells #[.int .u8 0, .int .u16 0, .int .u32 0, .int .u32 0, .int .i64 0] 145) := ⟨_, rfl⟩
  have hb0 : Below w.heap.size w w0 := by rw [hw0]; exact (Below.refl _ _).alloc (Nat.le_refl _) _
  have hM : w0.heap[w.heap.size]? = some (.cells #[.int .u8 0, .int .u16 0, .int .u32 0, .int .u32 0, .int .i64 0] 145 (0, 0)) := by rw [hw0]; exact heap_alloc_new w _
  have hF := h.below hb0
  have hil := (List.getElem?_eq_some_iff.1 hy).1
  obtain ⟨T, tail, hN, _⟩ := hF.node i y hy
  obtain ⟨a, ha⟩ : ∃ a, a = ad i := ⟨_, rfl⟩
  rw [← ha] at hN
  have x0 : w0.cell? ⟨a, 0, none⟩ = some (.int .u8 (y.kind : Int)) := one_block hN 0
  have x1 : w0.cell? ⟨a, 1, none⟩ = some (.int .u16 (y.mode : Int)) := one_block hN 1
  have x2 : w0.cell? ⟨a, 2, none⟩ = some (.int .u32 (y.uid : Int)) := one_block hN 2
  have x3 : w0.cell? ⟨a, 3, none⟩ = some (.int .u32 (y.gid : Int)) := one_block hN 3
  have x4 : w0.cell? ⟨a, 4, none⟩ = some (.int .i64 (y.n : Int)) := one_block hN 4
  have y0 : w0.cell? ⟨w.heap.size, 0, none⟩ = some (.int .u8 0) := one_block hM 0
  have y1 : w0.cell? ⟨w.heap.size, 1, none⟩ = some (.int .u16 0) := one_block hM 1
  have y2 : w0.cell? ⟨w.heap.size, 2, none⟩ = some (.int .u32 0) := one_block hM 2
  have y3 : w0.cell? ⟨w.heap.size, 3, none⟩ = some (.int .u32 0) := one_block hM 3
  have y4 : w0.cell? ⟨w.heap.size, 4, none⟩ = some (.int .i64 0) := one_block hM 4
  have z0 := one_free hM 0
  have z1 := one_free hM 1
  have z2 := one_free hM 2
  have z3 := one_free hM 3
  have z4 := one_free hM 4
  have hlt := (Array.getElem?_eq_some_iff.1 hM).1
  have hnode : ∀ W, W = w0 → Calls Tryz.prog 130 #[.pointer (some ⟨fs, 0, none⟩), .int .i64 (i : Int)] W fun e w' => e = .returned (.iface (tyOf (kindOf F i)) (.pointer (some ⟨a, 0, none⟩))) ∧ W = w' := fun W hW => by
    subst hW
    rw [ha]
    exact (fnode_yes B fs nb c2 i ad mp F _ hF hil).mono fun e w' ⟨h1, h2⟩ => ⟨h1, h2.symm⟩
  obtain ⟨k, hk⟩ : ∃ k, k = kindOf F i := ⟨_, rfl⟩
  rw [← hk] at hnode
  have HND := Lib.hid hnode
  have HW0 := Lib.hid hw0
  clear h hF hw0 hM hN hnode ha hk hy hil
  go_enter Tryz.func129, Tryz.ntmps129
  go_upto_region 1 with (fail)
  rw [← HW0.out]
  go_wp2_with (first
    | (go_at_call 130; refine (HND.out _ rfl).mono ?_; rintro e w1 ⟨rfl, rfl⟩)
    | fail)
  rw [about_node _ _ _ _ (by kernel_rfl)]
  simp only [Result.andThen]
  rw [enter_about, Oper.upon_enter]
  refine (about_any a _).mono ?_
  rintro e w2 ⟨rfl, rfl⟩
  go_wp2_with fail
  have hb1 : w.heap.size ≤ w.heap.size := Nat.le_refl _
  exact bodyPost_ret (v := .tuple #[.agg #[.int .u8 (y.kind : Int), .int .u16 (y.mode : Int), .int .u32 (y.uid : Int), .int .u32 (y.gid : Int), .int .i64 (y.n : Int)], .int .i64 0]) (by simp [results, Tryz.results129, go_sem, hlt, y0, y1, y2, y3, y4, z0, z1, z2, z3, z4]) rfl ⟨rfl, ((((hb0.setCell hb1 _).setCell hb1 _).setCell hb1 _).setCell hb1 _).setCell hb1 _⟩
set_option maxHeartbeats 1000000 in
set_option maxRecDepth 100000 in
theorem fmeta_no (B fs nb c2 : Nat) (ad mp : Nat → Nat) (F : List Nd) (ino : Int) (w : World) (h : FsIs w B fs nb c2 ad mp F) (hi : ino < 0 ∨ (F.length : Int) ≤ ino) :
    Calls Tryz.prog 129 #[.pointer (some ⟨fs, 0, none⟩), .int .i64 ino] w fun e w' => e = .returned (.tuple #[.agg #[.int .u8 0, .int .u16 0, .int .u32 0, .int .u32 0, .int .i64 0], .int .i64 3]) ∧ Below w.heap.size w w' := by
  obtain ⟨w0, hw0⟩ : ∃ w0, w0 = w.alloc (.cells #[.int .u8 0, .int .u16 0, .int .u32 0, .int .u32 0, .int .i64 0] 145) := ⟨_, rfl⟩
  have hb0 : Below w.heap.size w w0 := by rw [hw0]; exact (Below.refl _ _).alloc (Nat.le_refl _) _
  have hM : w0.heap[w.heap.size]? = some (.cells #[.int .u8 0, .int .u16 0, .int .u32 0, .int .u32 0, .int .i64 0] 145 (0, 0)) := by rw [hw0]; exact heap_alloc_new w _
  have hF := h.below hb0
  have y0 : w0.cell? ⟨w.heap.size, 0, none⟩ = some (.int .u8 0) := one_block hM 0
  have y1 : w0.cell? ⟨w.heap.size, 1, none⟩ = some (.int .u16 0) := one_block hM 1
  have y2 : w0.cell? ⟨w.heap.size, 2, none⟩ = some (.int .u32 0) := one_block hM 2
  have y3 : w0.cell? ⟨w.heap.size, 3, none⟩ = some (.int .u32 0) := one_block hM 3
  have y4 : w0.cell? ⟨w.heap.size, 4, none⟩ = some (.int .i64 0) := one_block hM 4
  have z0 := one_free hM 0
  have z1 := one_free hM 1
  have z2 := one_free hM 2
  have z3 := one_free hM 3
  have z4 := one_free hM 4
  have hlt := (Array.getElem?_eq_some_iff.1 hM).1
  have hnode : ∀ W, W = w0 → Calls Tryz.prog 130 #[.pointer (some ⟨fs, 0, none⟩), .int .i64 ino] W fun e w' => e = .returned .nilIface ∧ W = w' := fun W hW => by
    subst hW
    exact (fnode_no B fs nb c2 ad mp F ino _ hF hi).mono fun e w' ⟨h1, h2⟩ => ⟨h1, h2.symm⟩
  have HND := Lib.hid hnode
  have HW0 := Lib.hid hw0
  clear h hF hw0 hM hnode hi
  go_enter Tryz.func129, Tryz.ntmps129
  go_upto_region 1 with (fail)
  rw [← HW0.out]
  go_wp2_with (first
    | (go_at_call 130; refine (HND.out _ rfl).mono ?_; rintro e w1 ⟨rfl, rfl⟩)
    | fail)
  have hb1 : w.heap.size ≤ w.heap.size := Nat.le_refl _
  exact bodyPost_ret (v := .tuple #[.agg #[.int .u8 0, .int .u16 0, .int .u32 0, .int .u32 0, .int .i64 0], .int .i64 3]) (by simp [results, Tryz.results129, go_sem, hlt, y0, y1, y2, y3, y4, z0, z1, z2, z3, z4]) rfl ⟨rfl, ((((hb0.setCell hb1 _).setCell hb1 _).setCell hb1 _).setCell hb1 _).setCell hb1 _⟩

end Go.Proofs.YtkkmcnngpahfaaaGreatDoor

namespace Go.Proofs.YtkkmcnngpahfaaaGreatDoor
open Go.RowKit Go.Sort
set_option linter.unusedSimpArgs false
set_option linter.unusedVariables false

theorem assert_f0 (v : Value) (w : World) : (Instr.typeAssert (.iface 143 v) 207 210 true).run Tryz.prog w = .ok (.tuple #[.pointer none, .bool false]) w := by kernel_rfl
theorem assert_f1 (v : Value) (w : World) : (Instr.typeAssert (.iface 213 v) 207 210 true).run Tryz.prog w = .ok (.tuple #[.pointer none, .bool false]) w := by kernel_rfl
theorem assert_nodeF (k a : Nat) (w : World) : (Instr.typeAssert (.iface (tyOf k) (.pointer (some ⟨a, 0, none⟩))) 207 210 true).run Tryz.prog w = .ok (.tuple #[if k = 1 then .pointer (some ⟨a, 0, none⟩) else .pointer none, .bool (decide (k = 1))]) w := by
  unfold tyOf
  by_cases h2 : k = 2
  · subst h2
    exact assert_f0 _ w
  · rw [if_neg h2]
    by_cases h1 : k = 1
    · subst h1
      exact assert_file _ w
    · rw [if_neg h1, if_neg h1, decide_eq_false h1]
      exact assert_f1 _ w
/-- What Read answers: the error, how many bytes, which. -/
def readR (F : List Nd) (ino : Int) (off : Nat) : Int × Nat × (Nat → Nat) :=
  if ino < 0 ∨ (F.length : Int) ≤ ino then (3, 0, fun _ => 0)
  else match F[ino.toNat]? with
    | none => (3, 0, fun _ => 0)
    | some y => if y.kind = 2 then (9, 0, fun _ => 0) else if y.kind = 1 then (0, min 4096 (y.n - off), fun i => y.dat (off + i)) else (1, 0, fun _ => 0)
def ReadPost (w : World) (r : Int × Nat × (Nat → Nat)) (e : Ending) (w' : World) : Prop :=
  ∃ A cap, e = .returned (.tuple #[.slice A r.2.1 cap, .int .i64 r.1]) ∧ BytesV w' A r.2.1 r.2.2 ∧ (∀ x, A = some x → 0 < r.2.1 → w.heap.size ≤ x.block) ∧ Below w.heap.size w w' ∧ OwnB w' w.heap.size A cap r.2.1 r.2.2
theorem ownB_nil (w : World) (base : Nat) (d : Nat → Nat) : OwnB w base none 0 0 d := ⟨rfl, .inl ⟨rfl, rfl⟩⟩
theorem ownB_zero {w : World} {base : Nat} (d : Nat → Nat) (h : base ≤ w.heap.size) : OwnB (w.alloc (.cells #[] 5)) base (some ⟨w.heap.size, 0, none⟩) 0 0 d := ((OwnB.none_made w).lower h).congr fun i hi => absurd hi (by omega)

set_option maxHeartbeats 1000000 in
set_option maxRecDepth 100000 in
theorem fread_no (B fs nb c2 off : Nat) (ad mp : Nat → Nat) (F : List Nd) (ino : Int) (w : World) (h : FsIs w B fs nb c2 ad mp F) (hi : ino < 0 ∨ (F.length : Int) ≤ ino) :
    Calls Tryz.prog 92 #[.pointer (some ⟨fs, 0, none⟩), .int .i64 ino, .int .i64 (off : Int), .int .i64 4096] w (ReadPost w (3, 0, fun _ => 0)) := by
  have hm := fmeta_no B fs nb c2 ad mp F ino w h hi
  have HM := Lib.hid hm
  clear hm h hi
  go_enter Tryz.func92, Tryz.ntmps92
  go_wp2_with fail
  refine (HM.out).mono ?_
  rintro e w1 ⟨rfl, hb1⟩
  go_wp2_with fail
  go_ret2
  exact ⟨none, 0, rfl, (fun h => by cases h), (fun x hx => by cases hx), hb1.trans (((Below.refl _ _).alloc (Nat.le_refl _) _).mono hb1.size), ownB_nil _ _ _⟩

set_option maxHeartbeats 1000000 in
set_option maxRecDepth 100000 in
theorem fread_dir (B fs nb c2 off i : Nat) (ad mp : Nat → Nat) (F : List Nd) (y : Nd) (w : World) (h : FsIs w B fs nb c2 ad mp F) (hy : F[i]? = some y) (hk : y.kind = 2) :
    Calls Tryz.prog 92 #[.pointer (some ⟨fs, 0, none⟩), .int .i64 (i : Int), .int .i64 (off : Int), .int .i64 4096] w (ReadPost w (9, 0, fun _ => 0)) := by
  have hm := fmeta_yes B fs nb c2 i ad mp F y w h hy
  unfold metaV at hm
  rw [hk] at hm
  have HM := Lib.hid hm
  clear hm h hy hk
  go_enter Tryz.func92, Tryz.ntmps92
  go_wp2_with fail
  refine (HM.out).mono ?_
  rintro e w1 ⟨rfl, hb1⟩
  go_wp2_with fail
  go_ret2
  exact ⟨none, 0, rfl, (fun h => by cases h), (fun x hx => by cases hx), hb1.trans (((Below.refl _ _).alloc (Nat.le_refl _) _).mono hb1.size), ownB_nil _ _ _⟩

set_option maxHeartbeats 1000000 in
set_option maxRecDepth 100000 in
theorem fread_link (B fs nb c2 off i : Nat) (ad mp : Nat → Nat) (F : List Nd) (y : Nd) (w : World) (h : FsIs w B fs nb c2 ad mp F) (hy : F[i]? = some y) (hk : y.kind = 3) :
    Calls Tryz.prog 92 #[.pointer (some ⟨fs, 0, none⟩), .int .i64 (i : Int), .int .i64 (off : Int), .int .i64 4096] w (ReadPost w (1, 0, fun _ => 0)) := by
  have hil := (List.getElem?_eq_some_iff.1 hy).1
  have hm := fmeta_yes B fs nb c2 i ad mp F y w h hy
  unfold metaV at hm
  rw [hk] at hm
  have hki := kindOf_some hy
  rw [hk] at hki
  have hfa := fun W => assert_nodeF 3 (ad i) W
  have hnd : ∀ W, Below w.heap.size w W → Calls Tryz.prog 130 #[.pointer (some ⟨fs, 0, none⟩), .int .i64 (i : Int)] W fun e w' => e = .returned (.iface (tyOf 3) (.pointer (some ⟨ad i, 0, none⟩))) ∧ w' = W := fun W hW => by
    have h9 := fnode_yes B fs nb c2 i ad mp F W (h.below hW) hil
    rw [hki] at h9
    exact h9
  have HM := Lib.hid hm
  have HND := Lib.hid hnd
  rw [if_neg (by decide), decide_eq_false (by decide)] at hfa
  clear hm h hy hk hil hnd hki
  go_enter Tryz.func92, Tryz.ntmps92
  go_wp2_with fail
  refine (HM.out).mono ?_
  rintro e w1 ⟨rfl, hb1⟩
  have hbb : Below w.heap.size w (w1.alloc (.cells #[.int .u8 3, .int .u16 (y.mode : Int), .int .u32 (y.uid : Int), .int .u32 (y.gid : Int), .int .i64 (y.n : Int)] 145)) := hb1.trans (((Below.refl _ _).alloc (Nat.le_refl _) _).mono hb1.size)
  have HBB := Lib.hid hbb
  clear hbb
  go_wp2_with (first
    | (go_at_call 130; refine (HND.out _ HBB.out).mono ?_; rintro e w3 ⟨rfl, rfl⟩)
    | fail)
  go_ret2
  exact ⟨none, 0, rfl, (fun h => by cases h), (fun x hx => by cases hx), HBB.out, ownB_nil _ _ _⟩

set_option maxHeartbeats 2000000 in
set_option maxRecDepth 100000 in
theorem fread_file (B fs nb c2 off i : Nat) (ad mp : Nat → Nat) (F : List Nd) (y : Nd) (w : World) (h : FsIs w B fs nb c2 ad mp F) (hy : F[i]? = some y) (hk : y.kind = 1) (hp : off ≤ 65536) :
    Calls Tryz.prog 92 #[.pointer (some ⟨fs, 0, none⟩), .int .i64 (i : Int), .int .i64 (off : Int), .int .i64 4096] w (ReadPost w (0, min 4096 (y.n - off), fun j => y.dat (off + j))) := by
  have hil := (List.getElem?_eq_some_iff.1 hy).1
  have hm := fmeta_yes B fs nb c2 i ad mp F y w h hy
  unfold metaV at hm
  rw [hk] at hm
  have hki := kindOf_some hy
  rw [hk] at hki
  obtain ⟨a, ha⟩ : ∃ a, a = ad i := ⟨_, rfl⟩
  have hfa := fun W => assert_nodeF 1 a W
  have hnd : ∀ W, Below w.heap.size w W → Calls Tryz.prog 130 #[.pointer (some ⟨fs, 0, none⟩), .int .i64 (i : Int)] W fun e w' => e = .returned (.iface (tyOf 1) (.pointer (some ⟨a, 0, none⟩))) ∧ w' = W := fun W hW => by
    have h9 := fnode_yes B fs nb c2 i ad mp F W (h.below hW) hil
    rw [hki, ← ha] at h9
    exact h9
  have hn := (h.ok.each i y hy).few
  obtain ⟨n, hnn⟩ : ∃ n, n = y.n := ⟨_, rfl⟩
  obtain ⟨T, tail, hN, _, h1, _⟩ := h.node i y hy
  obtain ⟨_, A, cd, rfl, hA, hAg, hfit, hsok⟩ := h1 hk
  rw [← ha, ← hnn] at hN
  rw [← hnn] at hm hA hfit hsok hn ⊢
  rw [if_pos rfl, decide_eq_true rfl] at hfa
  have hal : ∀ x, A = some x → x.block < w.heap.size := fun x hx => by
    obtain ⟨g, cs, f, e, hg⟩ := hAg x hx
    subst e
    exact (Array.getElem?_eq_some_iff.1 hg).1
  have hau : a < w.heap.size := (Array.getElem?_eq_some_iff.1 hN).1
  have hform : A = none ∨ ∃ g, A = some ⟨g, 0, none⟩ := by
    cases A with
    | none => exact .inl rfl
    | some x => obtain ⟨g, cs, f, e, hg⟩ := hAg x rfl; exact .inr ⟨g, by rw [e]⟩
  have HM := Lib.hid hm
  have HND := Lib.hid hnd
  have HN := Lib.hid hN
  have HA := Lib.hid hA
  have HAL := Lib.hid hal
  clear hm h hy hk hil hnd hki hN hA hal h1 hAg ha hnn
  by_cases hbig : n ≤ off
  · have i2 : min (off : Int) (n : Int) = (n : Int) := by omega
    have i3 : min (4096 : Int) 0 = 0 := by omega
    have hk0 : min 4096 (n - off) = 0 := by omega
    rw [hk0]
    unfold ReadPost
    clear hk0
    go_enter Tryz.func92, Tryz.ntmps92
    go_wp2_with fail
    refine (HM.out).mono ?_
    rintro e w1 ⟨rfl, hb1⟩
    obtain ⟨w2, hw2⟩ : ∃ w2, w2 = w1.alloc (.cells #[.int .u8 1, .int .u16 (y.mode : Int), .int .u32 (y.uid : Int), .int .u32 (y.gid : Int), .int .i64 (n : Int)] 145) := ⟨_, rfl⟩
    have hb2 : Below w1.heap.size w1 w2 := by rw [hw2]; exact (Below.refl _ _).alloc (Nat.le_refl _) _
    have hM : w2.heap[w1.heap.size]? = some (.cells #[.int .u8 1, .int .u16 (y.mode : Int), .int .u32 (y.uid : Int), .int .u32 (y.gid : Int), .int .i64 (n : Int)] 145 (0, 0)) := by rw [hw2]; exact heap_alloc_new _ _
    have hbb : Below w.heap.size w w2 := hb1.trans (hb2.mono hb1.size)
    have x8 : w2.cell? ⟨a, 8, none⟩ = some (.slice _ n cd) := (hbb.cell (p := ⟨a, 8, none⟩) hau).trans (one_block HN.out 8)
    have m0 : w2.cell? ⟨w1.heap.size, 0, none⟩ = some (.int .u8 1) := one_block hM 0
    have HW2 := Lib.hid hw2
    have HBB := Lib.hid hbb
    clear hw2 hM hb2 hbb
    rcases hform with rfl | ⟨g, rfl⟩
    · have hn0 := hsok rfl
      have x9 : w2.cell? ⟨a, 8, none⟩ = some (.slice none 0 0) := by rw [x8, hn0.1, hn0.2]
      have i5 : min (off : Int) 0 = 0 := by omega
      clear x8 hn0 i2
      go_upto_region 2 with (fail)
      rw [← HW2.out]
      go_wp2_with (first
        | (go_at_call 130; refine (HND.out _ HBB.out).mono ?_; rintro e w3 ⟨rfl, rfl⟩)
        | fail)
      go_region_held3 (fun w' => w'.cell? ⟨a, 8, none⟩ = some (.slice none 0 0)) (go_keep) (fail)
      go_wp2_with fail
      all_goals
        refine (clone_nothing _).mono ?_
        rintro e w5 ⟨rfl, rfl⟩
        go_wp2_with fail
        go_ret2
        exact ⟨none, 0, rfl, fun h => absurd h (by omega), fun x hx => (by cases hx), HBB.out.trans (((Below.refl _ _).drew).mono HBB.out.size), ownB_nil _ _ _⟩
    · go_upto_region 2 with (fail)
      rw [← HW2.out]
      go_wp2_with (first
        | (go_at_call 130; refine (HND.out _ HBB.out).mono ?_; rintro e w3 ⟨rfl, rfl⟩)
        | fail)
      go_region_held3 (fun w' => w'.cell? ⟨a, 8, none⟩ = some (.slice (some ⟨g, 0, none⟩) n cd)) (go_keep) (fail)
      go_wp2_with fail
      all_goals
        refine (clone_empty _ _ _).mono ?_
        rintro e w5 ⟨rfl, rfl⟩
        go_wp2_with fail
        go_ret2
        exact ⟨_, 0, rfl, fun h => absurd h (by omega), fun x hx h => absurd h (by omega), HBB.out.trans (((Below.refl _ _).drew.trans ((Below.refl _ _).alloc (Nat.le_refl _) _)).mono HBB.out.size), ownB_zero _ HBB.out.size⟩
  · obtain ⟨k, hk⟩ : ∃ k : Nat, k = min 4096 (n - off) := ⟨_, rfl⟩
    obtain ⟨g, rfl⟩ : ∃ g, A = some ⟨g, 0, none⟩ := by
      rcases hform with rfl | h9
      · have := hsok rfl; omega
      · exact h9
    have hk0 : 0 < k := by omega
    have hkf : k ≤ 4096 := by omega
    have i0 : (off : Int) ≤ (n : Int) := by omega
    have i1 : off < cd := by omega
    have i2 : min (off : Int) (n : Int) = (off : Int) := by omega
    have i3 : min (4096 : Int) ((n - off : Nat) : Int) = (k : Int) := by omega
    have i4 : (k : Int) ≤ ((n - off : Nat) : Int) := by omega
    unfold ReadPost
    rw [← hk]
    go_enter Tryz.func92, Tryz.ntmps92
    go_wp2_with fail
    refine (HM.out).mono ?_
    rintro e w1 ⟨rfl, hb1⟩
    obtain ⟨w2, hw2⟩ : ∃ w2, w2 = w1.alloc (.cells #[.int .u8 1, .int .u16 (y.mode : Int), .int .u32 (y.uid : Int), .int .u32 (y.gid : Int), .int .i64 (n : Int)] 145) := ⟨_, rfl⟩
    have hb2 : Below w1.heap.size w1 w2 := by rw [hw2]; exact (Below.refl _ _).alloc (Nat.le_refl _) _
    have hM : w2.heap[w1.heap.size]? = some (.cells #[.int .u8 1, .int .u16 (y.mode : Int), .int .u32 (y.uid : Int), .int .u32 (y.gid : Int), .int .i64 (n : Int)] 145 (0, 0)) := by rw [hw2]; exact heap_alloc_new _ _
    have hbb : Below w.heap.size w w2 := hb1.trans (hb2.mono hb1.size)
    have x8 : w2.cell? ⟨a, 8, none⟩ = some (.slice _ n cd) := (hbb.cell (p := ⟨a, 8, none⟩) hau).trans (one_block HN.out 8)
    have m0 : w2.cell? ⟨w1.heap.size, 0, none⟩ = some (.int .u8 1) := one_block hM 0
    have HW2 := Lib.hid hw2
    have HBB := Lib.hid hbb
    clear hw2 hM hb2 hbb
    have hgw : g < w.heap.size := HAL.out _ rfl
    have hglt : g < w2.heap.size := Nat.lt_of_lt_of_le hgw HBB.out.size
    have hA2 : BytesV w2 (some ⟨g, off, none⟩) k (fun j => y.dat (off + j)) := by
      intro _
      refine ⟨_, rfl, fun j hj => ?_⟩
      obtain ⟨x, h1, h2⟩ := (HA.out.below HBB.out HAL.out) (by omega)
      injection h1 with h1
      subst h1
      have h3 := h2 (off + j) (by omega)
      rw [Addr.add_mid] at h3 ⊢
      rw [Nat.zero_add] at h3
      exact h3
    have HA2 := Lib.hid hA2
    clear hA2 hk hform
    go_upto_region 2 with (fail)
    rw [← HW2.out]
    go_wp2_with (first
      | (go_at_call 130; refine (HND.out _ HBB.out).mono ?_; rintro e w3 ⟨rfl, rfl⟩)
      | fail)
    go_region_held3 (fun w' => w'.cell? ⟨a, 8, none⟩ = some (.slice (some ⟨g, 0, none⟩) n cd)) (go_keep) (fail)
    go_wp2_with fail
    have hdr : Below w3.heap.size w3 w3.drew := (Below.refl _ _).drew
    refine (clone_any k (cd - off) ⟨g, off, none⟩ (fun j => y.dat (off + j)) _ hk0 (by omega) (HA2.out.below hdr (fun x hx => by injection hx with hx; subst hx; exact hglt)) hglt).mono ?_
    rintro e w5 ⟨g5, cap5, rfl, ho5, hb5⟩
    have hg5 := ho5.form.1
    have hg5' : w.heap.size ≤ g5 := Nat.le_trans HBB.out.size hg5
    have HO5 := Lib.hid ho5
    clear ho5 hg5
    go_wp2_with fail
    go_ret2
    exact ⟨_, cap5, rfl, HO5.out.v, (fun x hx _ => by injection hx with hx; subst hx; exact hg5'), HBB.out.trans ((hdr.trans hb5).mono HBB.out.size), HO5.out.lower HBB.out.size⟩

theorem fread_any (B fs nb c2 off : Nat) (ad mp : Nat → Nat) (F : List Nd) (ino : Int) (w : World) (h : FsIs w B fs nb c2 ad mp F) (hp : off ≤ 65536) :
    Calls Tryz.prog 92 #[.pointer (some ⟨fs, 0, none⟩), .int .i64 ino, .int .i64 (off : Int), .int .i64 4096] w (ReadPost w (readR F ino off)) := by
  unfold readR
  by_cases hi : ino < 0 ∨ (F.length : Int) ≤ ino
  · rw [if_pos hi]
    exact fread_no B fs nb c2 off ad mp F ino w h hi
  · rw [if_neg hi]
    obtain ⟨i, rfl⟩ : ∃ i : Nat, ino = (i : Int) := ⟨ino.toNat, by omega⟩
    have hil : i < F.length := by omega
    rw [Int.toNat_natCast]
    obtain ⟨y, hy, _⟩ := kindOf_get hil
    rw [hy]
    have hk := (h.ok.each i y hy).kind
    simp only
    rcases (by omega : y.kind = 2 ∨ y.kind = 1 ∨ y.kind = 3) with e | e | e
    · rw [if_pos e]; exact fread_dir B fs nb c2 off i ad mp F y w h hy e
    · rw [if_neg (by omega), if_pos e]; exact fread_file B fs nb c2 off i ad mp F y w h hy e hp
    · rw [if_neg (by omega), if_neg (by omega)]; exact fread_link B fs nb c2 off i ad mp F y w h hy e
theorem read_is {B fs nb c2 off : Nat} {ad mp : Nat → Nat} {F : List Nd} {ino : Int} {w : World} (h : FsIs w B fs nb c2 ad mp F) (hp : off ≤ 65536) : ReadIs w fs ino (off : Int) (readR F ino off).1 (readR F ino off).2.1 (readR F ino off).2.2 :=
  (fread_any B fs nb c2 off ad mp F ino w h hp).mono fun e w' ⟨A, cap, h1, h2, h3, h4, _⟩ => ⟨A, cap, h1, h2, h3, h4⟩

end Go.Proofs.YtkkmcnngpahfaaaGreatDoor
