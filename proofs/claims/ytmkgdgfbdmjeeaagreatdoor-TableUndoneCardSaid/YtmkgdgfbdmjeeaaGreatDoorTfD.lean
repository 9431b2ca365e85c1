/- Frames: Load and Store; a row copied into another one. -/
import Derived.Test.YtmkgdgfbdmjeeaaGreatDoorTfC
import Derived.Deep.Cut
import Derived.Deep.CutBlock
import Derived.Deep.CutRange
import Derived.Outline
import Derived.Laws.CopyOwn
import Derived.Deep.MidRow
import Derived.Laws.MakeOwn
namespace Go.Proofs.YtmkgdgfbdmjeeaaGreatDoor
open Go.RowKit
set_option linter.unusedSimpArgs false
set_option linter.unusedVariables false

theorem made_rowV (z : Value) (n : Nat) : madeCells #[z] n = rowV n fun _ => z := by
  apply Array.ext_getElem?
  intro j
  by_cases h : j < n
  · rw [rowV_at h]
    simp [madeCells, h, Nat.mod_one]
  · rw [Array.getElem?_eq_none (by rw [size_madeCells]; omega), Array.getElem?_eq_none (by rw [rowV_size]; omega)]

def overlay (gd gs : Nat → Value) (o so k : Nat) : Nat → Value := fun i => if o ≤ i ∧ i < o + k then gs (so + (i - o)) else gd i

theorem splice_rows {n m o so k : Nat} {gd gs : Nat → Value} (h1 : o + k ≤ n) (h2 : so + k ≤ m) :
    ((rowV n gd).toList.take o ++ (((List.range k).map fun i => gs (so + i)) ++ (rowV n gd).toList.drop (o + k))).toArray = rowV n (overlay gd gs o so k) := by
  apply Array.ext_getElem?
  intro j
  have hl : (rowV n gd).toList.length = n := by rw [Array.length_toList, rowV_size]
  rw [List.getElem?_toArray]
  by_cases hj : j < n
  · rw [rowV_at hj]
    unfold overlay
    by_cases c1 : j < o
    · rw [List.getElem?_append_left (by rw [List.length_take, hl]; omega), List.getElem?_take, if_pos c1, Array.getElem?_toList, rowV_at hj, if_neg (by omega)]
    · rw [List.getElem?_append_right (by rw [List.length_take, hl]; omega), List.length_take, hl, Nat.min_eq_left (by omega)]
      by_cases c2 : j < o + k
      · rw [List.getElem?_append_left (by simp; omega), if_pos (by omega), List.getElem?_map, List.getElem?_range (by omega)]
        rfl
      · rw [List.getElem?_append_right (by simp; omega), if_neg (by omega), List.getElem?_drop, Array.getElem?_toList]
        simp only [List.length_map, List.length_range]
        rw [show o + k + (j - o - k) = j from by omega, rowV_at hj]
  · rw [Array.getElem?_eq_none (by rw [rowV_size]; omega), List.getElem?_eq_none]
    simp [hl]
    omega

/-- copy out of a row into a row. -/
theorem wpList_copy_rows {w : World} {ops : Array Oper} {rest : List Oper} {o : Oper} {a : Act} {Q : Exit → Act → World → Prop} (hgd : o.guard = none) (d s : Operand) (dT sT : TypeId)
    (ho : o.op = .call { callee := .builtin .copy, args := #[d, s], argTypes := #[dT, sT] }) (elem : TypeId) (hu : Tryz.prog.underlying dT = some (.slice elem)) (hsz : (Tryz.prog.info? elem).map (·.size) = some 1)
    (g off dLen dCap h so sLen sCap k : Nat) (hd : a.eval d = .slice (some ⟨g, off, none⟩) dLen dCap) (hs : a.eval s = .slice (some ⟨h, so, none⟩) sLen sCap) (hk : k = Nat.min sLen dLen)
    (n m : Nat) (gd gs : Nat → Value) (t t' : TypeId) (hg : w.heap[g]? = some (.cells (rowV n gd) t (0, 0))) (fr : Nat × Nat) (hh : w.heap[h]? = some (.cells (rowV m gs) t' fr)) (h1 : off + k ≤ n) (h2 : so + k ≤ m)
    (hone : ∀ i, (gs i).oneCell' = true)
    (hc : wpList Tryz.prog ops Q rest (a.put o.dst (goInt k)) (w.setRow g (rowV n (overlay gd gs off so k)))) : wpList Tryz.prog ops Q (o :: rest) a w := by
  refine wpList_copy_own hgd d s dT sT ho elem hu hsz g off dLen dCap ⟨h, so, none⟩ sLen sCap hd hs (rowV n gd) t hg ((List.range k).map fun i => gs (so + i)) (by simp [hk]) (fun j v hv => ?_) (by rw [rowV_size]; simpa using h1) (fun v hv => ?_) ?_
  · have hjk : j < k := by
      have := (List.getElem?_eq_some_iff.1 hv).1
      simpa using this
    rw [List.getElem?_map, List.getElem?_range hjk] at hv
    simp only [Option.map_some, Option.some.injEq] at hv
    subst hv
    have e : (⟨h, so, none⟩ : Addr).add j = ⟨h, so + j, none⟩ := by unfold Addr.add; split <;> simp_all
    rw [e, one_block hh, rowV_at (by omega)]
  · obtain ⟨i, _, rfl⟩ := List.mem_map.1 hv
    exact hone _
  · have hs2 := splice_rows (gd := gd) (gs := gs) h1 h2
    simp only [List.length_map, List.length_range]
    rw [hs2]
    exact hc

theorem mod_row {S : Nat → Prop} {w : World} {b : Nat} (hb : S b) (cs : Array Value) : Mod S w (w.setRow b cs) :=
  ⟨rfl, rfl, rfl, by simp [World.setRow], fun k _ hk => setRow_other w b k cs (fun e => hk (by rw [e]; exact hb))⟩

/-- A row of bytes of the call's own. -/
def BytesAt (w : World) (b n : Nat) (d : Nat → Nat) : Prop := w.heap[b]? = some (.cells (rowV n fun i => .int .u8 (d i : Int)) 5 (0, 0))
theorem u8_one : (Tryz.prog.info? 5).map (·.size) = some 1 := by kernel_rfl
theorem u8_info : (Tryz.prog.info? 5).map (fun i => (i.zero, i.size, i.bytes)) = some (some (.int .u8 0), 1, 1) := by kernel_rfl
theorem make_bytes (n : Nat) (hn : n ≤ 1000000) (W : World) : (Instr.makeSlice 107 (.int .i64 (n : Int)) (.int .i64 (n : Int))).run Tryz.prog W = .ok (.slice (some ⟨W.heap.size, 0, none⟩) n n) (W.alloc (.cells (rowV n fun _ => .int .u8 0) 5)) := by
  obtain ⟨i0, hi0, hz0, hz1, hz2⟩ := info_parts u8_info
  have h := run_make (P := Tryz.prog) W 107 5 i0 (.int .u8 0) Tryz.underlying107 hi0 hz0 .i64 .i64 (n : Int) (n : Int) (by omega) (by omega) (by rw [hz2]; omega) (by omega)
  rw [h, hz1]
  simp [Value.cells, made_rowV]

theorem frame_len : Tryz.prog.arrayLen 158 = 4096 := by kernel_rfl
theorem frame_elem : Tryz.prog.elem 158 = 5 := by kernel_rfl
theorem frame_und : Tryz.prog.underlying 158 = some (.array (Tryz.prog.arrayLen 158) (Tryz.prog.elem 158)) := by kernel_rfl
theorem u8_sizeOf (W : World) : (sizeOf 5).run Tryz.prog W = .ok 1 W := by
  obtain ⟨i0, hi0, hz0, hz1, hz2⟩ := info_parts u8_info
  simp [sizeOf, typeInfo, hi0, hz1]
theorem slice_frame (b off n : Nat) (h : off + n ≤ 4096) (W : World) :
    (Instr.sliceAt 158 (.pointer (some ⟨b, 0, none⟩)) (some (.int .i64 (off : Int))) (some (.int .i64 ((off : Int) + (n : Int)))) (some (.int .i64 ((off : Int) + (n : Int))))).run Tryz.prog W = .ok (.slice (some ⟨b, if n = 0 then 0 else off, none⟩) n n) W := by
  have h1 := run_sliceAt_array_lhm W 158 ⟨b, 0, none⟩ frame_und .i64 .i64 .i64 (off : Int) ((off : Int) + (n : Int)) ((off : Int) + (n : Int)) (by omega) (by omega) (by omega) (by rw [frame_len]; omega)
  rw [h1, frame_elem, u8_sizeOf]
  have e : ((off : Int) + (n : Int)).toNat = off + n := by omega
  simp only [Result.andThen_ok, slicedAt, e, Int.toNat_natCast, Nat.add_sub_cancel_left]
  by_cases hn : n = 0
  · subst hn; simp
  · rw [if_neg (by omega), if_neg hn]
    unfold Addr.add
    split <;> simp_all

set_option maxRecDepth 100000 in
set_option maxHeartbeats 1000000 in
theorem load_yes (a g off n : Nat) (w : World) (S : Nat → Prop) (p : Pool) (h : PoolAt w S a p) (hg : g < p.n) (h1 : 1 ≤ p.cnt g) (ho : off ≤ 4096) (hn : n ≤ 4096 - off) :
    Calls Tryz.prog 63 #[.pointer (some ⟨a, 0, none⟩), .int .i64 g, .int .i64 off, .int .i64 n] w
      fun e w' => e = .returned (.tuple #[.slice (some ⟨w.heap.size, 0, none⟩) n n, .int .i64 0]) ∧ BytesAt w' w.heap.size n (fun i => p.dat g (off + i)) ∧ w.heap.size < w'.heap.size ∧ Below w.heap.size w w' := by
  have ht : takenB p (g : Int) = true := by rw [takenB_nat]; exact decide_eq_true ⟨hg, by omega⟩
  have hT := fun W => taken_any a (g : Int) W S p
  rw [ht] at hT
  have HT := Lib.hid hT
  have HP := Lib.hid h
  obtain ⟨⟨C, B, F, wd, pt, hi, hS⟩, hlow, _, _⟩ := h
  have h1' : w.cell? ⟨a, 1, none⟩ = some (.slice (some ⟨B, 0, none⟩) p.n p.n) := one_block hi.self 1
  obtain ⟨b, hb1, hb2, hb3, hb4, hb5, hb6⟩ := hi.bytes g hg (by omega)
  have hpt := row_cell hi.ptrs hg
  rw [hb1] at hpt
  have hba := hlow a hS.1
  have hbB := hlow B hS.2.2.1
  have hbb := hlow b (hS.2.2.2.2 g b hg (by omega) hb1)
  have hN := hi.few.2
  have HB2 := Lib.hid hb2
  have hmk := make_bytes n (by omega)
  clear hi hT ht hlow hS hb1 hb2
  go_enter Tryz.func63, Tryz.ntmps63
  go_upto_region 6 with (go_at_call 85; refine (HT.out _ HP.out).mono ?_; rintro e w1 ⟨rfl, rfl⟩)
  have hX : (w.alloc (.cells (rowV n fun _ => .int .u8 0) 5)).heap[w.heap.size]? = some (.cells (rowV n fun _ => .int .u8 0) 5 (0, 0)) := heap_alloc_new w _
  have hY : (w.alloc (.cells (rowV n fun _ => .int .u8 0) 5)).heap[b]? = some (.cells (rowV 4096 fun i => .int .u8 (p.dat g i : Int)) 158 (0, 0)) := (Below.heap_alloc _ _ _ hbb).trans HB2.out
  have HX := Lib.hid hX
  have HY := Lib.hid hY
  clear hX hY
  have hsl := slice_frame b off n (by omega)
  have hso : (if n = 0 then 0 else off) + n ≤ 4096 := by split <;> omega
  generalize hS0 : (if n = 0 then 0 else off) = so at *
  have HS0 := Lib.hid hS0
  clear hS0
  go_wp2_with ((with_reducible refine wpList_copy_rows rfl (.tmp 39) (.tmp 55) 107 107 rfl 5 Tryz.underlying107 u8_one w.heap.size 0 n n b so n n n rfl rfl (by simp) n 4096 _ _ _ _ HX.out _ HY.out (by omega) (by omega) (fun _ => rfl) ?_))
  go_ret2
  refine ⟨rfl, ?_, by simp [World.setRow], ?_⟩
  · unfold BytesAt
    rw [setRow_heap _ _ _ _ _ _ HX.out]
    congr 2
    refine rowV_congr fun i hi => ?_
    unfold overlay
    rw [if_pos (by omega), ← HS0.out, if_neg (by omega)]
    simp
  · exact below_setRow ((Below.refl _ _).alloc (Nat.le_refl _) _) (Nat.le_refl _) _

set_option maxRecDepth 100000 in
set_option maxHeartbeats 1000000 in
theorem load_no (a : Nat) (f off n : Int) (w : World) (S : Nat → Prop) (p : Pool) (h : PoolAt w S a p) (ht : takenB p f = false) :
    Calls Tryz.prog 63 #[.pointer (some ⟨a, 0, none⟩), .int .i64 f, .int .i64 off, .int .i64 n] w
      fun e w' => e = .returned (.tuple #[.slice none 0 0, .int .i64 1]) ∧ w = w' := by
  have hT := fun W => taken_any a f W S p
  rw [ht] at hT
  have HT := Lib.hid hT
  clear hT ht
  go_enter Tryz.func63, Tryz.ntmps63
  go_wp2_with (go_at_call 85; refine (HT.out _ h).mono ?_; rintro e w1 ⟨rfl, rfl⟩)
  go_ret2
  exact ⟨rfl, rfl⟩

/-- Bytes that can be read from a slice on. -/
def BytesV (w : World) (A : Option Addr) (n : Nat) (d : Nat → Nat) : Prop := 0 < n → ∃ ad, A = some ad ∧ ∀ j, j < n → w.cell? (ad.add j) = some (.int .u8 (d j : Int))
theorem BytesAt.v {w : World} {b n : Nat} {d : Nat → Nat} (h : BytesAt w b n d) : BytesV w (some ⟨b, 0, none⟩) n d := fun _ => ⟨_, rfl, fun j hj => by
  rw [Addr.add_mid, Nat.zero_add]
  exact row_cell h hj⟩
theorem BytesV.below {w w' : World} {B n : Nat} {A : Option Addr} {d : Nat → Nat} (h : BytesV w A n d) (hb : Below B w w') (hA : ∀ ad, A = some ad → ad.block < B) : BytesV w' A n d := fun h0 => by
  obtain ⟨ad, e, hc⟩ := h h0
  refine ⟨ad, e, fun j hj => ?_⟩
  rw [← hc j hj]
  refine hb.cell ?_
  have : (ad.add j).block = ad.block := by unfold Addr.add; split <;> rfl
  rw [this]
  exact hA ad e
/-- copy of bytes into a row. -/
theorem wpList_copy_bytes {w : World} {ops : Array Oper} {rest : List Oper} {o : Oper} {a : Act} {Q : Exit → Act → World → Prop} (hgd : o.guard = none) (d s : Operand)
    (ho : o.op = .call { callee := .builtin .copy, args := #[d, s], argTypes := #[107, 107] })
    (g off dLen dCap n sCap : Nat) (A : Option Addr) (hd : a.eval d = .slice (some ⟨g, off, none⟩) dLen dCap) (hs : a.eval s = .slice A n sCap) (hk : n ≤ dLen)
    (N : Nat) (gd : Nat → Value) (e : Nat → Nat) (t : TypeId) (hg : w.heap[g]? = some (.cells (rowV N gd) t (0, 0))) (hA : BytesV w A n e) (h1 : off + n ≤ N)
    (hc : wpList Tryz.prog ops Q rest (a.put o.dst (goInt n)) (w.setRow g (rowV N (overlay gd (fun i => .int .u8 (e i : Int)) off 0 n)))) : wpList Tryz.prog ops Q (o :: rest) a w := by
  rcases Nat.eq_zero_or_pos n with rfl | hn
  · have h0 := wpList_copy_nothing (P := Tryz.prog) (w := w) (ops := ops) (rest := rest) (Q := Q) hgd d s 107 107 ho 5 Tryz.underlying107 u8_one _ _ dLen dCap 0 sCap hd hs (by simp)
    refine h0 ?_
    have e1 : w.setRow g (rowV N (overlay gd (fun i => .int .u8 (e i : Int)) off 0 0)) = w := by
      rw [rowV_congr (h := gd) (fun i hi => by unfold overlay; rw [if_neg (by omega)])]
      exact setRow_self w g _ t _ hg
    rw [e1] at hc
    exact hc
  · obtain ⟨ad, rfl, hcs⟩ := hA hn
    refine wpList_copy_own hgd d s 107 107 ho 5 Tryz.underlying107 u8_one g off dLen dCap ad n sCap hd hs (rowV N gd) t hg ((List.range n).map fun i => .int .u8 (e i : Int)) (by rw [List.length_map, List.length_range]; exact (Nat.min_eq_left hk).symm) (fun j v hv => ?_) (by rw [rowV_size]; simpa using h1) (fun v hv => ?_) ?_
    · have hjk : j < n := by
        have := (List.getElem?_eq_some_iff.1 hv).1
        simpa using this
      rw [List.getElem?_map, List.getElem?_range hjk] at hv
      simp only [Option.map_some, Option.some.injEq] at hv
      subst hv
      exact hcs j hjk
    · obtain ⟨i, _, rfl⟩ := List.mem_map.1 hv
      rfl
    · have hs2 := splice_rows (gd := gd) (gs := fun i => .int .u8 (e i : Int)) (so := 0) h1 (Nat.le_refl (0 + n))
      simp only [List.length_map, List.length_range]
      simp only [Nat.zero_add] at hs2
      rw [hs2]
      exact hc
/-- A frame's bytes are turned. -/
theorem PoolIs.setBytes {w : World} {a C B F b g : Nat} {wd : Nat → Nat} {pt : Nat → Option Nat} {p : Pool} (h : PoolIs w a C B F wd pt p) (hg : g < p.n) (h1 : 1 ≤ p.cnt g) (hb : pt g = some b) (d : Nat → Nat) (hd : ∀ i, d i < 256)
    {v : Nat → Value} (hv : ∀ i, i < 4096 → v i = .int .u8 (d i : Int)) : PoolIs (w.setRow b (rowV 4096 v)) a C B F wd pt (p.store g d) := by
  obtain ⟨b', e, h2, h3, h4, h5, h6⟩ := h.bytes g hg h1
  rw [hb] at e
  injection e with e
  subst e
  have far : ∀ k, k ≠ b → (w.setRow b (rowV 4096 v)).heap[k]? = w.heap[k]? := fun k hk => setRow_other w b k _ hk
  refine ⟨(far a h3.symm).trans h.self, (far C h4.symm).trans h.counts, (far B h5.symm).trans h.ptrs, (far F h6.symm).trans h.free, h.wds, fun f hf hc => ?_, h.sole, h.apart, fun f i => ?_, h.few, h.cap⟩
  · obtain ⟨b', e, k2, k3⟩ := h.bytes f hf hc
    refine ⟨b', e, ?_, k3⟩
    by_cases ef : f = g
    · subst ef
      rw [hb] at e
      injection e with e
      subst e
      have hrow : rowV 4096 v = rowV 4096 fun i => .int .u8 ((p.store f d).dat f i : Int) := rowV_congr fun i hi => by
        rw [hv i hi]
        simp only [Pool.store, upd_same]
      rw [setRow_heap w b _ _ _ _ h2, hrow]
    · have : b' ≠ b := fun e2 => ef (h.sole f g b hf hg hc h1 (by rw [e, e2]) hb)
      rw [far b' this, k2]
      simp only [Pool.store, upd_ne _ _ ef]
  · by_cases ef : f = g
    · subst ef; simp only [Pool.store, upd_same]; exact hd i
    · simp only [Pool.store, upd_ne _ _ ef]; exact h.small f i
theorem slice_frame_from (b off : Nat) (h : off ≤ 4096) (W : World) :
    (Instr.sliceAt 158 (.pointer (some ⟨b, 0, none⟩)) (some (.int .i64 (off : Int))) none none).run Tryz.prog W = .ok (.slice (some ⟨b, if off = 4096 then 0 else off, none⟩) (4096 - off) (4096 - off)) W := by
  have h1 := run_sliceAt_array_l W 158 ⟨b, 0, none⟩ frame_und .i64 (off : Int) (by omega) (by rw [frame_len]; omega)
  rw [h1, frame_elem, u8_sizeOf, frame_len]
  simp only [Result.andThen_ok, slicedAt, Int.toNat_natCast]
  by_cases hn : off = 4096
  · subst hn; simp
  · rw [if_neg (by omega), if_neg hn]
    unfold Addr.add
    split <;> simp_all

def laid (d0 d : Nat → Nat) (off n : Nat) : Nat → Nat := fun i => if off ≤ i ∧ i < off + n then d (i - off) else d0 i

set_option maxRecDepth 100000 in
set_option maxHeartbeats 1000000 in
theorem store_yes (a g off n c : Nat) (A : Option Addr) (d : Nat → Nat) (w : World) (S : Nat → Prop) (p : Pool) (h : PoolAt w S a p) (hg : g < p.n) (h1 : 1 ≤ p.cnt g) (ho : off ≤ 4096) (hn : n ≤ 4096 - off) (hA : BytesV w A n d) (hd : ∀ j, d j < 256) :
    Calls Tryz.prog 105 #[.pointer (some ⟨a, 0, none⟩), .int .i64 g, .int .i64 off, .slice A n c] w
      fun e w' => e = .returned (.int .i64 0) ∧ PoolAt w' S a (p.store g (laid (p.dat g) d off n)) ∧ Mod S w w' := by
  have ht : takenB p (g : Int) = true := by rw [takenB_nat]; exact decide_eq_true ⟨hg, by omega⟩
  have hT := fun W => taken_any a (g : Int) W S p
  rw [ht] at hT
  have HT := Lib.hid hT
  have HP := Lib.hid h
  obtain ⟨⟨C, B, F, wd, pt, hi, hS⟩, hlow, _, _⟩ := h
  have h1' : w.cell? ⟨a, 1, none⟩ = some (.slice (some ⟨B, 0, none⟩) p.n p.n) := one_block hi.self 1
  obtain ⟨b, hb1, hb2, hb3, hb4, hb5, hb6⟩ := hi.bytes g hg (by omega)
  have hpt := row_cell hi.ptrs hg
  rw [hb1] at hpt
  have hN := hi.few.2
  have HB2 := Lib.hid hb2
  have HI := Lib.hid hi
  have HB1 := Lib.hid hb1
  have HA := Lib.hid hA
  have hsl := slice_frame_from b off ho
  clear hi hT ht hlow hb1 hb2 hA
  have hso : (if off = 4096 then 0 else off) ≤ 4096 := by split <;> omega
  generalize hS0 : (if off = 4096 then 0 else off) = so at *
  have HS0 := Lib.hid hS0
  clear hS0
  go_enter Tryz.func105, Tryz.ntmps105
  go_upto_region 5 with (go_at_call 85; refine (HT.out _ HP.out).mono ?_; rintro e w1 ⟨rfl, rfl⟩)
  go_wp2_with ((with_reducible refine wpList_copy_bytes rfl (.tmp 41) (.tmp 42) rfl b so (4096 - off) (4096 - off) n c A rfl rfl (by omega) 4096 _ d _ HB2.out HA.out (by rw [← HS0.out]; split <;> omega) ?_))
  go_ret
  have hfin := HI.out.setBytes hg h1 HB1.out (laid (p.dat g) d off n) (fun i => by unfold laid; split; exact hd _; exact HI.out.small _ _) (v := overlay (fun i => .int .u8 (p.dat g i : Int)) (fun i => .int .u8 (d i : Int)) so 0 n) (fun i hi => by
    unfold overlay laid
    by_cases e : n = 0
    · rw [if_neg (by omega), if_neg (by omega)]
    · have e2 : so = off := by rw [← HS0.out, if_neg (by omega)]
      subst e2
      by_cases e3 : so ≤ i ∧ i < so + n
      · rw [if_pos e3, if_pos e3]; simp
      · rw [if_neg e3, if_neg e3])
  exact ⟨rfl, HP.out.stay (mod_row (hS.2.2.2.2 g b hg (by omega) HB1.out) _) ⟨C, B, F, wd, pt, hfin, hS⟩, mod_row (hS.2.2.2.2 g b hg (by omega) HB1.out) _⟩

end Go.Proofs.YtmkgdgfbdmjeeaaGreatDoor
