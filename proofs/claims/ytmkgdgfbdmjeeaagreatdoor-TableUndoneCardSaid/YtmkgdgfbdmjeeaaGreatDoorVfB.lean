/- Files: at. Files: add of the one file. Files: New of the one file. The statements' file of three pages. -/
import Derived.Test.YtmkgdgfbdmjeeaaGreatDoorPaA
import Derived.WideMake
import Derived.Carry
import Derived.Test.YtmkgdgfbdmjeeaaGreatDoorTwA
import Derived.BigRegion
import Derived.Deep.RegionHeld3
import Derived.Test.YtmkgdgfbdmjeeaaGreatDoorTfG
import Derived.OwnWalk

namespace Go.Proofs.YtmkgdgfbdmjeeaaGreatDoor
open Go.RowKit Go.Sort
set_option linter.unusedSimpArgs false
set_option linter.unusedVariables false

/-- The root alone. -/
structure TopAt (w : World) (m d nb fs : Nat) : Prop where
  names : w.heap[m]? = some (.map #[] 0)
  dir : w.heap[d]? = some (.cells #[.int .u8 2, .int .u16 493, .int .u32 0, .int .u32 0, .int .i64 0, .int .i64 0, .pointer (some ⟨d, 0, none⟩), .string ⟨#[]⟩, .map (some m)] 166 (0, 0))
  nodes : w.heap[nb]? = some (.cells #[.iface 159 (.pointer (some ⟨d, 0, none⟩))] 211 (0, 0))
  self : w.heap[fs]? = some (.cells #[.slice (some ⟨nb, 0, none⟩) 1 1] 169 (0, 0))
theorem TopAt.below {w w' : World} {m d nb fs : Nat} (h : TopAt w m d nb fs) (hb : Below w.heap.size w w') : TopAt w' m d nb fs :=
  ⟨(hb.block _ (Array.getElem?_eq_some_iff.1 h.names).1).trans h.names, (hb.block _ (Array.getElem?_eq_some_iff.1 h.dir).1).trans h.dir, (hb.block _ (Array.getElem?_eq_some_iff.1 h.nodes).1).trans h.nodes, (hb.block _ (Array.getElem?_eq_some_iff.1 h.self).1).trans h.self⟩

theorem str_und : Tryz.prog.underlying 9 = some .string := by kernel_rfl
theorem names_none {w : World} {m : Nat} {clk : Nat} (hb : w.heap[m]? = some (.map #[] clk)) (s : ByteArray) :
    (Instr.lookup 164 (.map (some m)) (.string s) true).run Tryz.prog w = .ok (.tuple #[.nilIface, .bool false]) w := by
  have hf : Instr.findNow .string (.string s) ([] : List MapEntry) 0 = some none := rfl
  have hc : (Instr.checkKey true 10000 9 (.string s)).run Tryz.prog w = .ok () w := MapKept.run_checkKey (k := .string s) str_und (by simp [MapKept.IsKey]) true 9999
  have hz : (zeroValue 211).run Tryz.prog w = .ok .nilIface w := by kernel_rfl
  simp [Instr.lookup, run_underlying Tryz.underlying164, MapKept.run_getObj_map hb, hc, MapKept.run_findKey str_und hf, hz, Result.andThen]

theorem assert_dir (v : Value) (w : World) : (Instr.typeAssert (.iface 159 v) 211 159 true).run Tryz.prog w = .ok (.tuple #[v, .bool true]) w := by kernel_rfl
theorem assert_file (v : Value) (w : World) : (Instr.typeAssert (.iface 214 v) 211 214 true).run Tryz.prog w = .ok (.tuple #[v, .bool true]) w := by kernel_rfl

set_option maxRecDepth 100000 in
theorem vat_top (m d nb fs g cap : Nat) (w : World) (h : TopAt w m d nb fs) : Calls Tryz.prog 130 #[.pointer (some ⟨fs, 0, none⟩), .slice (some ⟨g, 0, none⟩) 0 cap] w fun e w' => e = .returned (.iface 159 (.pointer (some ⟨d, 0, none⟩))) ∧ w' = w := by
  have c0 : w.cell? ⟨fs, 0, none⟩ = some (.slice (some ⟨nb, 0, none⟩) 1 1) := one_block h.self 0
  have c1 : w.cell? ⟨nb, 0, none⟩ = some (.iface 159 (.pointer (some ⟨d, 0, none⟩))) := one_block h.nodes 0
  clear h
  go_enter Tryz.func130, Tryz.ntmps130
  go_wp2_with fail
  go_loop [5, 18] (fun n i => n = .iface 159 (.pointer (some ⟨d, 0, none⟩)) ∧ i = .int .i64 0) (fun _ _ => 0)
  case atStart => exact ⟨rfl, rfl⟩
  case round =>
    obtain ⟨rfl, rfl⟩ := hrel
    go_wp2
    go_ret
    exact ⟨rfl, rfl⟩

set_option maxRecDepth 100000 in
theorem vat_miss (m d nb fs g cap : Nat) (w : World) (h : TopAt w m d nb fs) (hc : w.cell? ⟨g, 0, none⟩ = some (.string ⟨#[97]⟩)) : Calls Tryz.prog 130 #[.pointer (some ⟨fs, 0, none⟩), .slice (some ⟨g, 0, none⟩) 1 cap] w fun e w' => e = .returned .nilIface ∧ w' = w := by
  have c0 : w.cell? ⟨fs, 0, none⟩ = some (.slice (some ⟨nb, 0, none⟩) 1 1) := one_block h.self 0
  have c1 : w.cell? ⟨nb, 0, none⟩ = some (.iface 159 (.pointer (some ⟨d, 0, none⟩))) := one_block h.nodes 0
  have c2 : w.cell? ⟨d, 8, none⟩ = some (.map (some m)) := one_block h.dir 8
  have hl := fun s => names_none h.names s
  have had := fun v => assert_dir v w
  clear h
  obtain ⟨s, hs⟩ : ∃ s : ByteArray, s = ⟨#[97]⟩ := ⟨_, rfl⟩
  rw [← hs] at hc
  clear hs
  go_enter Tryz.func130, Tryz.ntmps130
  go_wp2_with fail
  go_loop [5, 18] (fun n i => n = .iface 159 (.pointer (some ⟨d, 0, none⟩)) ∧ i = .int .i64 0) (fun _ _ => 0)
  case atStart => exact ⟨rfl, rfl⟩
  case round =>
    obtain ⟨rfl, rfl⟩ := hrel
    go_wp2
    go_ret
    exact ⟨rfl, rfl⟩

end Go.Proofs.YtmkgdgfbdmjeeaaGreatDoor

namespace Go.Proofs.YtmkgdgfbdmjeeaaGreatDoor
open Go.RowKit Go.Sort
set_option linter.unusedSimpArgs false
set_option linter.unusedVariables false

theorem node_info : (Tryz.prog.info? 211).map (fun i => (i.zero, i.size, i.bytes)) = some (some .nilIface, 1, 16) := by kernel_rfl
theorem app_node {w : World} {ops : Array Oper} {rest : List Oper} {o : Oper} {a : Act} {Q : Exit → Act → World → Prop} (hgd : o.guard = none) (s x : Operand)
    (ho : o.op = .call { callee := .builtin .append, args := #[s, x], argTypes := #[167, 167] })
    (A : Option Addr) (cap : Nat) (l : List Value) (hs : a.eval s = .slice A l.length cap) (hown : w.ownsRow 0 211 1 (.slice A l.length cap) l.length l)
    (t : Value) (ht : t.oneCell' = true) (b c : Nat) (hx : a.eval x = .slice (some ⟨b, 0, none⟩) 1 c) (hb : w.heap[b]? = some (.cells #[t] 211 (0, 0)))
    (hfew : l.length < 1000000)
    (h : ∀ g cap' w', w'.ownsRow 0 211 1 (.slice (some ⟨g, 0, none⟩) (l.length + 1) cap') (l.length + 1) (l ++ [t]) → w.grownBy w' (A.map (·.block)) → (A.map (·.block) = some g ∨ g = w.heap.size) → g < w'.heap.size → wpList Tryz.prog ops Q rest (a.put o.dst (.slice (some ⟨g, 0, none⟩) (l.length + 1) cap')) w') :
    wpList Tryz.prog ops Q (o :: rest) a w := by
  obtain ⟨i0, hi0, hz0, hz1, hz2⟩ := info_parts node_info
  refine wpList_append_lies w hgd s x 167 ho 0 211 i0 _ 1 16 Tryz.underlying167 hi0 hz0 hz1 hz2 rfl (by omega) _ l.length l hs hown ⟨b, 0, none⟩ 1 c [t] hx rfl (World.news_of_block (cs := #[t]) hb)
    (by simpa using ht) (by omega) (by unfold maxLen; omega) (by omega) (Nat.zero_le _) w.heap.size rfl ?_
  intro g cap' w' ho' hg hat hlt
  refine h g cap' w' ho' ?_ ?_ hlt
  · cases A <;> simpa [Value.ownBlock] using hg
  · cases A <;> simpa [Value.ownBlock] using hat

/-- One file, "/a", below the root. -/
structure FileAt (w : World) (d x g fs nb c2 cd n : Nat) (dat : Nat → Nat) : Prop where
  self : w.heap[fs]? = some (.cells #[.slice (some ⟨nb, 0, none⟩) 2 c2] 169 (0, 0))
  n0 : w.cell? ⟨nb, 0, none⟩ = some (.iface 159 (.pointer (some ⟨d, 0, none⟩)))
  n1 : w.cell? ⟨nb, 1, none⟩ = some (.iface 214 (.pointer (some ⟨x, 0, none⟩)))
  dir : ∃ m, w.heap[d]? = some (.cells #[.int .u8 2, .int .u16 493, .int .u32 0, .int .u32 0, .int .i64 0, .int .i64 0, .pointer (some ⟨d, 0, none⟩), .string ⟨#[]⟩, .map (some m)] 166 (0, 0))
  file : w.heap[x]? = some (.cells #[.int .u8 1, .int .u16 420, .int .u32 0, .int .u32 0, .int .i64 (n : Int), .int .i64 1, .pointer (some ⟨d, 0, none⟩), .string ⟨#[97]⟩, .slice (some ⟨g, 0, none⟩) n cd] 216 (0, 0))
  data : BytesV w (some ⟨g, 0, none⟩) n dat
  low : nb < w.heap.size ∧ g < w.heap.size
  fits : n ≤ cd
def AddPost (w : World) (m d nb fs n : Nat) (dat : Nat → Nat) (e : Ending) (w' : World) : Prop :=
  e = .returned (.int .i64 0) ∧ ∃ x g nb2 c2 cd, FileAt w' d x g fs nb2 c2 cd n dat ∧ Mod (fun b => b = m ∨ b = nb ∨ b = fs) w w'
theorem add_done {w w3 w4 w6 w7 w8 w9 : World} {m d nb fs n g2 cd g9 c9 : Nat} {dat : Nat → Nat} {o : Obj} (hT : TopAt w m d nb fs) (hbw3 : Below w.heap.size w w3) (hb37 : Below w3.heap.size w3 w7) (hz4 : w3.heap.size ≤ w4.heap.size) (hz6 : w4.heap.size ≤ w6.heap.size) (l3 : w3.heap.size < w4.heap.size)
    (hT7 : TopAt w7 m d nb fs) (hX : w7.heap[w6.heap.size]? = some (.cells #[.int .u8 1, .int .u16 420, .int .u32 0, .int .u32 0, .int .i64 (n : Int), .int .i64 1, .pointer (some ⟨d, 0, none⟩), .string ⟨#[97]⟩, .slice (some ⟨g2, 0, none⟩) n cd] 216 (0, 0)))
    (hO : OwnB w7 w4.heap.size (some ⟨g2, 0, none⟩) cd n dat) (hm1 : Mod (fun b => b = m) w7 w8) (hS9 : w9.heap[fs]? = some (.cells #[.slice (some ⟨nb, 0, none⟩) 1 1] 169 (0, 0)))
    (hg9 : (w8.alloc o).grownBy w9 ((some (⟨nb, 0, none⟩ : Addr)).map (·.block)))
    (ho9 : w9.ownsRow 0 211 1 (.slice (some ⟨g9, 0, none⟩) 2 c9) 2 ([.iface 159 (.pointer (some ⟨d, 0, none⟩))] ++ [.iface 214 (.pointer (some ⟨w6.heap.size, 0, none⟩))]))
    (hat9 : (some (⟨nb, 0, none⟩ : Addr)).map (·.block) = some g9 ∨ g9 = (w8.alloc o).heap.size) :
    AddPost w m d nb fs n dat (.returned (.int .i64 0)) (w9.setCell ⟨fs, 0, none⟩ (.slice (some ⟨g9, 0, none⟩) 2 c9)) := by
  have lfs := (Array.getElem?_eq_some_iff.1 hT.self).1
  have lnb := (Array.getElem?_eq_some_iff.1 hT.nodes).1
  have ld := (Array.getElem?_eq_some_iff.1 hT.dir).1
  have lm := (Array.getElem?_eq_some_iff.1 hT.names).1
  have dm : d ≠ m := fun e => by have h1 := hT.dir; have h2 := hT.names; rw [e, h2] at h1; cases h1
  have df : d ≠ fs := fun e => by have h1 := hT.dir; have h2 := hT.self; rw [e, h2] at h1; simp at h1
  have dn : d ≠ nb := fun e => by have h1 := hT.dir; have h2 := hT.nodes; rw [e, h2] at h1; simp at h1
  have nf : nb ≠ fs := fun e => by have h1 := hT.nodes; have h2 := hT.self; rw [e, h2] at h1; simp at h1
  have hz3 := hbw3.size
  have hz7 := hb37.size
  have hz8 := hm1.size
  have hz9 : w8.heap.size + 1 ≤ w9.heap.size := by simpa using hg9.size
  have hx7 : w6.heap.size < w7.heap.size := (Array.getElem?_eq_some_iff.1 hX).1
  have hgf := OwnB.form hO
  have keep : ∀ b, b < w7.heap.size → b ≠ m → b ≠ nb → b ≠ fs → (w9.setCell ⟨fs, 0, none⟩ (.slice (some ⟨g9, 0, none⟩) 2 c9)).heap[b]? = w7.heap[b]? := by
    intro b hb h1 h2 h3
    refine ((mod_set (S := fun b => b = fs) (w := w9) rfl 0 _).block b (by omega) h3).trans ((hg9.block b (by simp; omega) (by simpa using h2)).trans ((Below.heap_alloc _ _ _ (by omega)).trans (hm1.block b hb h1)))
  have e9 : g9 ≠ fs := by
    rcases hat9 with h | h
    · simp at h; omega
    · simp at h; omega
  have hl9 := ho9.lt g9 rfl
  have hcell : ∀ i, (w9.setCell ⟨fs, 0, none⟩ (.slice (some ⟨g9, 0, none⟩) 2 c9)).cell? ⟨g9, i, none⟩ = w9.cell? ⟨g9, i, none⟩ := fun i => cell_same ((mod_set (S := fun b => b = fs) (w := w9) rfl 0 _).block g9 hl9.2 e9) i
  refine ⟨rfl, w6.heap.size, g2, g9, c9, cd, ⟨set_one hS9, ?_, ?_, ⟨m, (keep d (by omega) dm dn df).trans hT7.dir⟩, (keep _ hx7 (by omega) (by omega) (by omega)).trans hX, ?_, ⟨?_, ?_⟩, ?_⟩, ?_⟩
  · rw [hcell, World.ownsRow.cellAt ho9 0 (by omega)]; rfl
  · rw [hcell, World.ownsRow.cellAt ho9 1 (by omega)]; rfl
  · intro h0
    refine ⟨_, rfl, fun j hj => ?_⟩
    rw [Addr.add_mid, Nat.zero_add, cell_same (keep g2 hgf.2 (by omega) (by omega) (by omega)) j]
    exact OwnB.cell hO hj
  · exact Nat.lt_of_lt_of_le hl9.2 (mod_set (S := fun b => b = fs) (w := w9) rfl 0 _).size
  · exact Nat.lt_of_lt_of_le (by omega : g2 < w9.heap.size) (mod_set (S := fun b => b = fs) (w := w9) rfl 0 _).size
  · rcases hO.2 with ⟨h2, _⟩ | ⟨g', cap', cur, h1, _, _, h4, _⟩
    · injection h2 with h2; cases h2
    · injection h1 with _ _ e3; omega
  · have h1 : Mod (fun b => b = m ∨ b = nb ∨ b = fs) w w7 := Mod.of (hbw3.trans (hb37.mono hz3))
    have h2 : Mod (fun b => b = m ∨ b = nb ∨ b = fs) w7 w8 := hm1.sub fun b hb => .inl hb
    have h3 : Mod (fun b => b = m ∨ b = nb ∨ b = fs) w8 w9 := ⟨hg9.os, hg9.tape, hg9.output, by omega, fun b hb hn => (hg9.block b (by simp; omega) (by simpa using fun e => hn (.inr (.inl e)))).trans (Below.heap_alloc _ _ _ hb)⟩
    exact h1.trans (Out.refl _ _) (h2.trans (Out.refl _ _) (h3.trans (Out.refl _ _) (mod_set (S := fun b => b = m ∨ b = nb ∨ b = fs) (.inr (.inr rfl)) 0 _)))

set_option maxRecDepth 100000 in
set_option maxHeartbeats 4000000 in
theorem vadd_a (m d nb fs n c : Nat) (ad : Addr) (dat : Nat → Nat) (w : World) (h : TopAt w m d nb fs) (hA : BytesV w (some ad) n dat) (had : ad.block < w.heap.size) (hn0 : 0 < n) (hn : n ≤ 65536) :
    Calls Tryz.prog 96 #[.pointer (some ⟨fs, 0, none⟩), entryA (some ad) n c] w (AddPost w m d nb fs n dat) := by
  have htop := h
  obtain ⟨w0, hw0⟩ : ∃ w0, w0 = w.alloc (.cells #[.string ⟨#[47, 97]⟩, .int .u8 1, .int .u16 420, .int .u32 0, .int .u32 0, .slice (some ad) n c, .string ByteArray.empty] 114) := ⟨_, rfl⟩
  have hb0 : Below w.heap.size w w0 := by rw [hw0]; exact (Below.refl _ _).alloc (Nat.le_refl _) _
  have hE : w0.heap[w.heap.size]? = some (.cells #[.string ⟨#[47, 97]⟩, .int .u8 1, .int .u16 420, .int .u32 0, .int .u32 0, .slice (some ad) n c, .string ByteArray.empty] 114 (0, 0)) := by rw [hw0]; exact heap_alloc_new w _
  have had' := had
  have hlt0 : w.heap.size < w0.heap.size := (Array.getElem?_eq_some_iff.1 hE).1
  have hpa := fun W => vparts_a (some ad) n c W hn
  have d0 : w0.cell? ⟨w.heap.size, 0, none⟩ = some (.string ⟨#[47, 97]⟩) := one_block hE 0
  have d1 : w0.cell? ⟨w.heap.size, 1, none⟩ = some (.int .u8 1) := one_block hE 1
  have d2 : w0.cell? ⟨w.heap.size, 2, none⟩ = some (.int .u16 420) := one_block hE 2
  have d3 : w0.cell? ⟨w.heap.size, 3, none⟩ = some (.int .u32 0) := one_block hE 3
  have d4 : w0.cell? ⟨w.heap.size, 4, none⟩ = some (.int .u32 0) := one_block hE 4
  have d5 : w0.cell? ⟨w.heap.size, 5, none⟩ = some (.slice (some ad) n c) := one_block hE 5
  have d6 : w0.cell? ⟨w.heap.size, 6, none⟩ = some (.string ByteArray.empty) := one_block hE 6
  unfold entryA at hpa ⊢
  have HPA := Lib.hid hpa
  have HE := Lib.hid hE
  have HW0 := Lib.hid hw0
  have HT := Lib.hid (h.below hb0)
  have HTOP := Lib.hid htop
  clear hpa hE hw0 h htop
  go_enter Tryz.func96, Tryz.ntmps96
  go_upto_region 1 with (fail)
  rw [← HW0.out]
  go_upto_region 7 with (first
    | (go_at_call 129; refine (HPA.out _).mono ?_; rintro e w1 ⟨g, cap, rfl, hc1, hg1, hg2, hb1⟩; have hasd := fun v => assert_dir v w1; have HT1 := Lib.hid (HT.out.below hb1); have HE1 := Lib.hid ((hb1.block _ hlt0).trans HE.out))
    | (go_at_call 130; refine (vat_miss m d nb fs g cap _ HT1.out hc1).mono ?_; rintro e w2 ⟨rfl, rfl⟩))
  go_upto_region 13 with (first
    | (go_at_call 130; refine (vat_top m d nb fs g cap _ HT1.out).mono ?_; rintro e w3 ⟨rfl, rfl⟩))
  clear d0 d1 d2 d3 d4 d5 d6
  have l1 : fs < w3.heap.size := (Array.getElem?_eq_some_iff.1 HT1.out.self).1
  have l2 : w.heap.size < w3.heap.size := (Array.getElem?_eq_some_iff.1 HE1.out).1
  have e0 : w3.cell? ⟨w.heap.size, 0, none⟩ = some (.string ⟨#[47, 97]⟩) := one_block HE1.out 0
  have e1 : w3.cell? ⟨w.heap.size, 1, none⟩ = some (.int .u8 1) := one_block HE1.out 1
  have e2 : w3.cell? ⟨w.heap.size, 2, none⟩ = some (.int .u16 420) := one_block HE1.out 2
  have e3 : w3.cell? ⟨w.heap.size, 3, none⟩ = some (.int .u32 0) := one_block HE1.out 3
  have e4 : w3.cell? ⟨w.heap.size, 4, none⟩ = some (.int .u32 0) := one_block HE1.out 4
  have e5 : w3.cell? ⟨w.heap.size, 5, none⟩ = some (.slice (some ad) n c) := one_block HE1.out 5
  have e8 : w3.cell? ⟨fs, 0, none⟩ = some (.slice (some ⟨nb, 0, none⟩) 1 1) := one_block HT1.out.self 0
  go_region_held3 (fun w' => w'.cell? ⟨w.heap.size, 1, none⟩ = some (.int .u8 1) ∧ w'.cell? ⟨w.heap.size, 2, none⟩ = some (.int .u16 420) ∧ w'.cell? ⟨w.heap.size, 3, none⟩ = some (.int .u32 0) ∧ w'.cell? ⟨w.heap.size, 4, none⟩ = some (.int .u32 0) ∧ w'.cell? ⟨w.heap.size, 5, none⟩ = some (.slice (some ad) n c) ∧ w'.cell? ⟨fs, 0, none⟩ = some (.slice (some ⟨nb, 0, none⟩) 1 1) ∧ w'.cell? ⟨g, 0, none⟩ = some (.string ⟨#[97]⟩))
    (go_keep)
    (fail)
  go_upto_region 14 with (fail)
  obtain ⟨w4, hw4⟩ : ∃ w4, w4 = (w3.alloc (.cells #[.int .u8 1, .int .u16 420, .int .u32 0, .int .u32 0, .int .i64 (n : Int), .int .i64 1, .pointer (some ⟨d, 0, none⟩), .string ⟨#[97]⟩] 163)).drew := ⟨_, rfl⟩
  rw [← hw4]
  have hB4 : w4.heap[w3.heap.size]? = some (.cells #[.int .u8 1, .int .u16 420, .int .u32 0, .int .u32 0, .int .i64 (n : Int), .int .i64 1, .pointer (some ⟨d, 0, none⟩), .string ⟨#[97]⟩] 163 (0, 0)) := by rw [hw4]; exact heap_alloc_new w3 _
  have hbe4 : Below w3.heap.size w3 w4 := by rw [hw4]; exact ((Below.refl _ _).alloc (Nat.le_refl _) _).drew
  have hz4 := hbe4.size
  have l3 : w3.heap.size < w4.heap.size := (Array.getElem?_eq_some_iff.1 hB4).1
  have hbw3 : Below w.heap.size w w3 := hb0.trans (hb1.mono hb0.size)
  have hz3 := hbw3.size
  have hA4 : ∀ W, Below w4.heap.size w4 W → BytesV W (some ad) n dat := fun W hb => hA.below (hbw3.trans ((hbe4.trans (hb.mono hz4)).mono hz3)) (fun x hx => by injection hx with hx; subst hx; exact had')
  clear e0 e1 e2 e3 e4 e5 e8
  have e1 : w4.cell? ⟨w.heap.size, 1, none⟩ = some (.int .u8 1) := (hbe4.cell l2).trans (one_block HE1.out 1)
  have e5 : w4.cell? ⟨w.heap.size, 5, none⟩ = some (.slice (some ad) n c) := (hbe4.cell l2).trans (one_block HE1.out 5)
  have x0 : w4.cell? ⟨w3.heap.size, 0, none⟩ = some (.int .u8 1) := one_block hB4 0
  have x1 : w4.cell? ⟨w3.heap.size, 1, none⟩ = some (.int .u16 420) := one_block hB4 1
  have x2 : w4.cell? ⟨w3.heap.size, 2, none⟩ = some (.int .u32 0) := one_block hB4 2
  have x3 : w4.cell? ⟨w3.heap.size, 3, none⟩ = some (.int .u32 0) := one_block hB4 3
  have x4 : w4.cell? ⟨w3.heap.size, 4, none⟩ = some (.int .i64 (n : Int)) := one_block hB4 4
  have x5 : w4.cell? ⟨w3.heap.size, 5, none⟩ = some (.int .i64 1) := one_block hB4 5
  have x6 : w4.cell? ⟨w3.heap.size, 6, none⟩ = some (.pointer (some ⟨d, 0, none⟩)) := one_block hB4 6
  have x7 : w4.cell? ⟨w3.heap.size, 7, none⟩ = some (.string ⟨#[97]⟩) := one_block hB4 7
  have HB4 := Lib.hid hB4
  have HBE4 := Lib.hid hbe4
  have HA4 := Lib.hid hA4
  have HBW3 := Lib.hid hbw3
  clear hB4 hbe4 hA4 hbw3 hw4
  go_upto_region 20 with (fail)
  go_region_with
    ((first
      | (go_at_call 131; refine (clone_any n c ad dat _ hn0 (by omega) (HA4.out _ ((Below.refl _ _).drew)) (by have := hz4; have := hz3; show ad.block < w4.heap.size; omega)).mono ?_; rintro e w6 ⟨g2, cd, rfl, ho6, hb6⟩; have hb6' : Below w4.heap.size w4 w6 := ((Below.refl w4.heap.size w4).drew).trans hb6; have y0 := (hb6'.cell (p := ⟨w3.heap.size, 0, none⟩) l3).trans x0; have y1 := (hb6'.cell (p := ⟨w3.heap.size, 1, none⟩) l3).trans x1; have y2 := (hb6'.cell (p := ⟨w3.heap.size, 2, none⟩) l3).trans x2; have y3 := (hb6'.cell (p := ⟨w3.heap.size, 3, none⟩) l3).trans x3; have y4 := (hb6'.cell (p := ⟨w3.heap.size, 4, none⟩) l3).trans x4; have y5 := (hb6'.cell (p := ⟨w3.heap.size, 5, none⟩) l3).trans x5; have y6 := (hb6'.cell (p := ⟨w3.heap.size, 6, none⟩) l3).trans x6; have y7 := (hb6'.cell (p := ⟨w3.heap.size, 7, none⟩) l3).trans x7; have HO6 := Lib.hid ho6; clear ho6 hb6)))
  all_goals
    go_upto_region 21 with (fail)
    obtain ⟨w7, hw7⟩ : ∃ w7, w7 = w6.alloc (.cells #[.int .u8 1, .int .u16 420, .int .u32 0, .int .u32 0, .int .i64 (n : Int), .int .i64 1, .pointer (some ⟨d, 0, none⟩), .string ⟨#[97]⟩, .slice (some ⟨g2, 0, none⟩) n cd] 216) := ⟨_, rfl⟩
    rw [← hw7]
    have hz6 := hb6'.size
    have hX7 : w7.heap[w6.heap.size]? = some (.cells #[.int .u8 1, .int .u16 420, .int .u32 0, .int .u32 0, .int .i64 (n : Int), .int .i64 1, .pointer (some ⟨d, 0, none⟩), .string ⟨#[97]⟩, .slice (some ⟨g2, 0, none⟩) n cd] 216 (0, 0)) := by rw [hw7]; exact heap_alloc_new w6 _
    have hbe7 : Below w4.heap.size w4 w7 := by rw [hw7]; exact hb6'.alloc hz6 _
    have hO7 : OwnB w7 w4.heap.size (some ⟨g2, 0, none⟩) cd n dat := by rw [hw7]; exact World.ownsRow.alloc HO6.out _
    have hb37 : Below w3.heap.size w3 w7 := HBE4.out.trans (hbe7.mono hz4)
    have hT7 := HT1.out.below hb37
    have z1 : w7.cell? ⟨d, 8, none⟩ = some (.map (some m)) := one_block hT7.dir 8
    have z2 : w7.cell? ⟨g, 0, none⟩ = some (.string ⟨#[97]⟩) := (hb37.cell (p := ⟨g, 0, none⟩) hg2).trans hc1
    obtain ⟨w8, hw8⟩ : ∃ w8, w8 = ({ w7.drew with heap := w7.drew.heap.setIfInBounds m (.map #[{ key := .string ⟨#[97]⟩, val := .iface 214 (.pointer (some ⟨w6.heap.size, 0, none⟩)), born := 0 }] (0 + 1)) } : World) := ⟨_, rfl⟩
    have hmu := run_mapUpdate_first (P := Tryz.prog) w7.drew 164 9 211 m 0 ⟨#[97]⟩ (.iface 214 (.pointer (some ⟨w6.heap.size, 0, none⟩))) Tryz.underlying164 str_und hT7.names
    rw [← hw8] at hmu
    have HX7 := Lib.hid hX7
    have HO7 := Lib.hid hO7
    have HT7 := Lib.hid hT7
    have HB37 := Lib.hid hb37
    have HW8 := Lib.hid hw8
    have hz7 : w6.heap.size < w7.heap.size := (Array.getElem?_eq_some_iff.1 hX7).1
    clear hX7 hO7 hT7 hb37 hw8 hw7 x0 x1 x2 x3 x4 x5 x6 x7 y0 y1 y2 y3 y4 y5 y6 y7 e1 e5
    go_region
    all_goals
      have hT8 := HT7.out
      have hm1 : Mod (fun b => b = m) w7 w8 := by
        rw [HW8.out]
        exact ⟨rfl, rfl, rfl, (by simp), fun b hb hne => Array.getElem?_setIfInBounds_ne (fun e => hne e.symm)⟩
      have n1 := hm1.size
      have lfs := (Array.getElem?_eq_some_iff.1 hT8.self).1
      have lnb := (Array.getElem?_eq_some_iff.1 hT8.nodes).1
      have lm := (Array.getElem?_eq_some_iff.1 hT8.names).1
      have nm : nb ≠ m := fun e => by have h1 := hT8.nodes; have h2 := hT8.names; rw [e, h2] at h1; cases h1
      have fm : fs ≠ m := fun e => by have h1 := hT8.self; have h2 := hT8.names; rw [e, h2] at h1; cases h1
      have nf : nb ≠ fs := fun e => by have h1 := hT8.nodes; have h2 := hT8.self; rw [e, h2] at h1; simp at h1
      have s8 := (hm1.block fs lfs fm).trans hT8.self
      have k8 := (hm1.block nb lnb nm).trans hT8.nodes
      have v1 : w8.cell? ⟨fs, 0, none⟩ = some (.slice (some ⟨nb, 0, none⟩) 1 1) := one_block s8 0
      have v2 : w8.frozen? ⟨fs, 0, none⟩ = false := one_free s8 0
      have hown : w8.ownsRow 0 211 1 (.slice (some ⟨nb, 0, none⟩) 1 1) 1 [.iface 159 (.pointer (some ⟨d, 0, none⟩))] := ⟨rfl, .inr ⟨nb, 1, _, rfl, Nat.zero_le _, k8, Nat.le_refl _, by decide, rfl, rfl⟩⟩
      have HS8 := Lib.hid s8
      have HM1 := Lib.hid hm1
      have HOWN := Lib.hid hown
      clear s8 k8 hm1 hown hmu z1 z2 hT8
      go_wp2_with (first
        | (at_builtin; refine app_node rfl (.tmp 102) (.tmp 104) rfl (some ⟨nb, 0, none⟩) 1 [.iface 159 (.pointer (some ⟨d, 0, none⟩))] rfl (World.ownsRow.alloc HOWN.out _) (.iface 214 (.pointer (some ⟨w6.heap.size, 0, none⟩))) rfl w8.heap.size 1 rfl (heap_alloc_new _ _) (by simp) ?_; intro g9 c9 w9 ho9 hg9 hat9 hlt9; have s9 := (hg9.block fs (by simp; omega) (by simpa using fun e => nf (Eq.symm e))).trans ((Below.heap_alloc _ _ _ (by omega)).trans HS8.out); have v3 := one_block s9 0; have v4 := one_free s9 0; have HS9 := Lib.hid s9; have HG9 := Lib.hid hg9; have HO9 := Lib.hid ho9; have HAT9 := Lib.hid hat9; clear s9 hg9 ho9 hat9)
        | fail)
      go_ret
      exact add_done HTOP.out HBW3.out HB37.out hz4 hz6 l3 HT7.out HX7.out HO7.out HM1.out HS9.out HG9.out HO9.out HAT9.out

end Go.Proofs.YtmkgdgfbdmjeeaaGreatDoor

namespace Go.Proofs.YtmkgdgfbdmjeeaaGreatDoor
open Go.RowKit Go.Sort
set_option linter.unusedSimpArgs false
set_option linter.unusedVariables false

/-- Files that lie behind block fs. -/
def FilesAt (w : World) (fs n : Nat) (dat : Nat → Nat) : Prop := ∃ d x g nb c2 cd, FileAt w d x g fs nb c2 cd n dat
/-- All of a file system's blocks lie from base on. -/
def FilesIn (w : World) (base fs n : Nat) (dat : Nat → Nat) : Prop := ∃ d x g nb c2 cd, FileAt w d x g fs nb c2 cd n dat ∧ base ≤ d ∧ base ≤ x ∧ base ≤ g ∧ base ≤ nb ∧ base ≤ fs

def VNewPost (w : World) (n : Nat) (dat : Nat → Nat) (e : Ending) (w' : World) : Prop :=
  ∃ fs, e = .returned (.tuple #[.pointer (some ⟨fs, 0, none⟩), .int .i64 0, .int .i64 0]) ∧ FilesAt w' fs n dat ∧ Below w.heap.size w w'
set_option maxRecDepth 100000 in
set_option maxHeartbeats 2000000 in
theorem vnew_a (b n c : Nat) (ad : Addr) (dat : Nat → Nat) (w : World) (hb : w.heap[b]? = some (.cells #[.string ⟨#[47, 97]⟩, .int .u8 1, .int .u16 420, .int .u32 0, .int .u32 0, .slice (some ad) n c, .string ⟨#[]⟩] 114 (0, 0))) (hA : BytesV w (some ad) n dat) (had : ad.block < w.heap.size) (hn0 : 0 < n) (hn : n ≤ 65536) :
    Calls Tryz.prog 34 #[.slice (some ⟨b, 0, none⟩) 1 1] w (VNewPost w n dat) := by
  have hlt := (Array.getElem?_eq_some_iff.1 hb).1
  obtain ⟨w0, hw0⟩ : ∃ w0, w0 = ((((w.alloc (.map #[] 0)).alloc (.cells #[.int .u8 2, .int .u16 493, .int .u32 0, .int .u32 0, .int .i64 0, .int .i64 0, .pointer (some ⟨w.heap.size + 1, 0, none⟩), .string ⟨#[]⟩, .map (some w.heap.size)] 166)).alloc (.cells #[.iface 159 (.pointer (some ⟨w.heap.size + 1, 0, none⟩))] 211)).alloc (.cells #[.slice (some ⟨w.heap.size + 1 + 1, 0, none⟩) 1 1] 169)) := ⟨_, rfl⟩
  have hz0 : w0.heap.size = w.heap.size + 1 + 1 + 1 + 1 := by rw [hw0]; simp
  have hb0 : Below w.heap.size w w0 := by
    rw [hw0]
    exact ((((Below.refl _ _).alloc (Nat.le_refl _) _).alloc (by simp) _).alloc (by simp; omega) _).alloc (by simp; omega) _
  have hT : TopAt w0 w.heap.size (w.heap.size + 1) (w.heap.size + 1 + 1) (w.heap.size + 1 + 1 + 1) := by
    rw [hw0]
    exact ⟨hp0, hp1, hp2, hp3⟩
  have hT0 := Lib.hid hT
  have hA0 := hA.below hb0 (fun x hx => by injection hx with hx; subst hx; exact had)
  have hE0 := (hb0.block b hlt).trans hb
  have e0 : w0.cell? ⟨b, 0, none⟩ = some (.string ⟨#[47, 97]⟩) := one_block hE0 0
  have e1 : w0.cell? ⟨b, 1, none⟩ = some (.int .u8 1) := one_block hE0 1
  have e2 : w0.cell? ⟨b, 2, none⟩ = some (.int .u16 420) := one_block hE0 2
  have e3 : w0.cell? ⟨b, 3, none⟩ = some (.int .u32 0) := one_block hE0 3
  have e4 : w0.cell? ⟨b, 4, none⟩ = some (.int .u32 0) := one_block hE0 4
  have e5 : w0.cell? ⟨b, 5, none⟩ = some (.slice (some ad) n c) := one_block hE0 5
  have e6 : w0.cell? ⟨b, 6, none⟩ = some (.string ⟨#[]⟩) := one_block hE0 6
  have HW0 := Lib.hid hw0
  have HB0 := Lib.hid hb0
  have HA0 := Lib.hid hA0
  have hmm := @run_makeMap Tryz.prog
  clear hb hA hT hA0 hE0 hb0 hw0
  go_enter Tryz.func34, Tryz.ntmps34
  go_upto_region 6 with (fail)
  rw [← HW0.out]
  go_wp2_with fail
  go_loopw [30] (fun i wr => (i = .int .i64 0 ∧ wr = w0) ∨ (i = .int .i64 1 ∧ FilesAt wr (w.heap.size + 1 + 1 + 1) n dat ∧ Below w.heap.size w wr)) (fun i _ => 1 - (intOf i).toNat)
  case atStart => exact .inl ⟨rfl, rfl⟩
  case round =>
    rcases hrel with ⟨rfl, rfl⟩ | ⟨rfl, hF, hbe⟩
    · have hf0 := (Below.refl wr.heap.size wr).alloc (Nat.le_refl _) (.cells #[.string ⟨#[47, 97]⟩, .int .u8 1, .int .u16 420, .int .u32 0, .int .u32 0, .slice (some ad) n c, .string ⟨#[]⟩] 114)
      have hadd := vadd_a w.heap.size (w.heap.size + 1) (w.heap.size + 1 + 1) (w.heap.size + 1 + 1 + 1) n c ad dat _ (hT0.out.below hf0) (HA0.out.below hf0 (fun x hx => by injection hx with hx; subst hx; omega)) (by simp; omega) hn0 hn
      have HADD := Lib.hid hadd
      have HF0 := Lib.hid hf0
      clear hadd hf0
      go_wp2_with (first
        | (go_at_call 96; refine (HADD.out).mono ?_; rintro e w2 ⟨rfl, x, g, nb2, c2, cd, hF2, hm2⟩; have HF2 := Lib.hid hF2; have HM2 := Lib.hid hm2; clear hF2 hm2)
        | fail)
      go_roundw
      case rel =>
        refine .inr ⟨by go_num, ⟨_, _, _, _, _, _, HF2.out⟩, ?_⟩
        exact ((Mod.of (HB0.out.trans (HF0.out.mono (by omega)))).trans (Out.refl _ _) HM2.out).below (fun b hb => by omega) (Nat.le_refl _)
      case measure => simp [intOf]
    · have HF := Lib.hid hF
      clear hF
      go_wp2_with fail
      go_ret3
      exact ⟨_, rfl, HF.out, hbe⟩

end Go.Proofs.YtmkgdgfbdmjeeaaGreatDoor

namespace Go.Proofs.YtmkgdgfbdmjeeaaGreatDoor
open Go.RowKit Go.Sort
set_option linter.unusedSimpArgs false
set_option linter.unusedVariables false

def fileDat (i : Nat) : Nat := i / 4096 + 1
def FilePost (w : World) (e : Ending) (w' : World) : Prop := ∃ b g, e = .returned (.slice (some ⟨b, 0, none⟩) 1 1) ∧
  w'.heap[b]? = some (.cells #[.string ⟨#[47, 97]⟩, .int .u8 1, .int .u16 420, .int .u32 0, .int .u32 0, .slice (some ⟨g, 0, none⟩) 8201 8201, .string ⟨#[]⟩] 114 (0, 0)) ∧
  BytesV w' (some ⟨g, 0, none⟩) 8201 fileDat ∧ g < w'.heap.size ∧ Below w.heap.size w w'
set_option maxRecDepth 100000 in
set_option maxHeartbeats 2000000 in
theorem file_any (w : World) : Calls Tryz.prog 35 #[] w (FilePost w) := by
  have hmk := make_bytes 8201 (by omega) w
  obtain ⟨N, hN⟩ : ∃ N : Nat, N = 8201 := ⟨_, rfl⟩
  have h0 : (w.alloc (.cells (rowV 8201 fun _ => .int .u8 0) 5)).heap[w.heap.size]? = some (.cells (rowV N fun j => .int .u8 ((if j < 0 then fileDat j else 0 : Nat) : Int)) 5 (0, 0)) := by
    rw [hN]
    exact heap_alloc_new w _
  have hb0 : Below w.heap.size w (w.alloc (.cells (rowV 8201 fun _ => .int .u8 0) 5)) := (Below.refl _ _).alloc (Nat.le_refl _) _
  obtain ⟨w0, hw0⟩ : ∃ w0, w0 = w.alloc (.cells (rowV 8201 fun _ => .int .u8 0) 5) := ⟨_, rfl⟩
  rw [← hw0] at h0 hb0 hmk
  have HN := Lib.hid hN
  have H0 := Lib.hid h0
  clear hN h0 hw0
  have hmk' : (Instr.makeSlice 107 (.int .i64 8201) (.int .i64 8201)).run Tryz.prog w = .ok (.slice (some ⟨w.heap.size, 0, none⟩) 8201 8201) w0 := hmk
  clear hmk
  go_enter Tryz.func35, Tryz.ntmps35
  go_wp2_with fail
  go_loopw [2] (fun i wr => ∃ k : Nat, i = .int .i64 (k : Int) ∧ k ≤ 8201 ∧ wr.heap[w.heap.size]? = some (.cells (rowV N fun j => .int .u8 ((if j < k then fileDat j else 0 : Nat) : Int)) 5 (0, 0)) ∧ Below w.heap.size w wr) (fun i _ => 8201 - (intOf i).toNat)
  case atStart => exact ⟨0, rfl, by omega, H0.out, hb0⟩
  case round =>
    obtain ⟨k, rfl, hk, hrow, hbe⟩ := hrel
    have HR := Lib.hid hrow
    have HBE := Lib.hid hbe
    clear hrow hbe
    by_cases hlt : k < 8201
    · have c1 : wr.cell? ⟨w.heap.size, k, none⟩ = some (.int .u8 ((if k < k then fileDat k else 0 : Nat) : Int)) := row_cell HR.out (by rw [HN.out]; omega)
      have c2 : wr.frozen? ⟨w.heap.size, k, none⟩ = false := one_free HR.out k
      go_wp2_with fail
      go_roundw
      case rel =>
        refine ⟨k + 1, by go_num, by omega, ?_, Below.setCell HBE.out (show w.heap.size ≤ (⟨w.heap.size, k, none⟩ : Addr).block from Nat.le_refl _) _⟩
        have h1 := Joins.block_setCell (i := k) HR.out (.int .u8 ((k : Int) / 4096 + 1))
        rw [rowV_set] at h1
        rw [h1]
        congr 2
        refine rowV_congr fun j hj => ?_
        by_cases e : j = k
        · subst e
          rw [upd_same, if_pos (by omega)]
          unfold fileDat
          congr 1
        · rw [upd_ne _ _ e]
          by_cases c : j < k
          · rw [if_pos c, if_pos (by omega)]
          · rw [if_neg c, if_neg (by omega)]
      case measure => (simp [intOf]; omega)
    · obtain rfl : k = 8201 := by omega
      have hlt2 := (Array.getElem?_eq_some_iff.1 HR.out).1
      go_wp2_with fail
      go_ret
      have hbe := HBE.out
      have hrow := HR.out
      have hn := HN.out
      subst hn
      have hb2 := (Below.refl wr.heap.size wr).alloc (Nat.le_refl _) (.cells #[.string ⟨#[47, 97]⟩, .int .u8 1, .int .u16 420, .int .u32 0, .int .u32 0, .slice (some ⟨w.heap.size, 0, none⟩) 8201 8201, .string ⟨#[]⟩] 114)
      refine ⟨wr.heap.size, w.heap.size, rfl, heap_alloc_new wr _, ?_, by simp; omega, hbe.alloc hbe.size _⟩
      intro _
      refine ⟨_, rfl, fun j hj => ?_⟩
      rw [Addr.add_mid, Nat.zero_add, hb2.cell hlt2, row_cell hrow hj, if_pos hj]

end Go.Proofs.YtmkgdgfbdmjeeaaGreatDoor
