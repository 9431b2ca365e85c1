/- Tables: a node's word read and written; leaves as words; an address taken apart. -/
import Derived.Test.YtmkgdgfbdmjeeaaGreatDoorTwA
import Derived.Test.YtmkgdgfbdmjeeaaGreatDoorTbA
import Derived.Laws.ShiftsVarLaws
namespace Go.Proofs.YtmkgdgfbdmjeeaaGreatDoor
open Go.RowKit
set_option linter.unusedSimpArgs false
set_option linter.unusedVariables false

/-- A table's own block. -/
def TabSelf (w : World) (t c a root : Nat) : Prop := w.heap[t]? = some (.cells #[.pointer (some ⟨c, 0, none⟩), .pointer (some ⟨a, 0, none⟩), .int .i64 (root : Int)] 130 (0, 0))

set_option maxRecDepth 100000 in
set_option maxHeartbeats 1000000 in
theorem tword_any (t c a root f k : Nat) (w : World) (S : Nat → Prop) (p : Pool) (h : PoolAt w S a p) (ht : TabSelf w t c a root) (hf : f < p.n) (h1 : 1 ≤ p.cnt f) (hk : k < 512) :
    Calls Tryz.prog 89 #[.pointer (some ⟨t, 0, none⟩), .int .i64 (f : Int), .int .i64 (k : Int)] w fun e w' => e = .returned (.int .u64 ((word (p.dat f) k : Nat) : Int)) ∧ Below w.heap.size w w' := by
  have c1 : w.cell? ⟨t, 1, none⟩ = some (.pointer (some ⟨a, 0, none⟩)) := one_block ht 1
  obtain ⟨⟨C, B, F, wd, pt, hi, hS⟩, hlow, _, _⟩ := id h
  have hsm := hi.small f
  clear hi hS hlow ht
  go_enter Tryz.func89, Tryz.ntmps89
  go_wp2_with fail
  refine (load_yes a f (8 * k) 8 w S p h hf h1 (by omega) (by omega)).mono ?_
  rintro e w1 ⟨rfl, hB, hz, hb1⟩
  have HB := Lib.hid hB
  clear hB
  go_wp2_with fail
  refine (get_8 0 8 8 w.heap.size (fun i => p.dat f (8 * k + i)) w1 (by omega) (by omega) HB.out (fun i => hsm _) hz).mono ?_
  rintro e w2 ⟨rfl, hb2⟩
  have hw : leVal (fun i => p.dat f (8 * k + i)) 0 8 = word (p.dat f) k := by
    unfold word
    have key : ∀ n, leVal (fun i => p.dat f (8 * k + i)) 0 n = leVal (p.dat f) (8 * k) n := fun n => by
      induction n with
      | zero => rfl
      | succ n ih => unfold leVal; rw [ih, Nat.zero_add]
    exact key 8
  rw [hw]
  go_wp2_with fail
  go_ret
  exact ⟨rfl, hb1.trans (hb2.mono (Nat.le_of_lt hz))⟩

theorem set_word_eq (d0 : Nat → Nat) (k x : Nat) : laid d0 (laid (fun _ => 0) (fun i => x / 256 ^ i % 256) 0 8) (8 * k) 8 = setWord d0 k x := by
  funext i
  unfold laid setWord
  simp only
  by_cases h : 8 * k ≤ i ∧ i < 8 * k + 8
  · rw [if_pos h, if_pos h, if_pos (by omega), Nat.sub_zero]
  · rw [if_neg h, if_neg h]

set_option maxRecDepth 100000 in
set_option maxHeartbeats 1000000 in
theorem tput_any (t c a root f k x : Nat) (w : World) (S : Nat → Prop) (p : Pool) (h : PoolAt w S a p) (ht : TabSelf w t c a root) (htw : t < w.heap.size) (hf : f < p.n) (h1 : 1 ≤ p.cnt f) (hk : k < 512) (hx : x < 18446744073709551616) :
    Calls Tryz.prog 90 #[.pointer (some ⟨t, 0, none⟩), .int .i64 (f : Int), .int .i64 (k : Int), .int .u64 (x : Int)] w fun e w' => e = .returned (.tuple #[]) ∧ PoolAt w' S a (p.store f (setWord (p.dat f) k x)) ∧ Mod S w w' := by
  have hB0 : Below w.heap.size w (w.alloc (.cells (rowV 8 fun _ => .int .u8 0) 5)) := (Below.refl _ _).alloc (Nat.le_refl _) _
  have hX : BytesAt (w.alloc (.cells (rowV 8 fun _ => .int .u8 0) 5)) w.heap.size 8 (fun _ => 0) := heap_alloc_new w _
  have hmk : ∀ W : World, (Instr.makeSlice 107 (.int .i64 8) (.int .i64 8)).run Tryz.prog W = .ok (.slice (some ⟨W.heap.size, 0, none⟩) 8 8) (W.alloc (.cells (rowV 8 fun _ => .int .u8 0) 5)) := make_bytes 8 (by omega)
  have HT := Lib.hid ht
  have HX := Lib.hid hX
  clear ht hX
  go_enter Tryz.func90, Tryz.ntmps90
  go_wp2_with fail
  refine (set_8 8 8 w.heap.size x _ (by omega) (by omega) (fun _ => 0) HX.out (by simp) hx).mono ?_
  rintro e w1 ⟨g, cap, rfl, ho, hb1⟩
  have hz1 := hb1.size
  simp at hz1
  have hB1 : Below w.heap.size w w1 := hB0.trans (hb1.mono (by simp))
  have hT1 : TabSelf w1 t c a root := (hB1.block t htw).trans HT.out
  have c1 : w1.cell? ⟨t, 1, none⟩ = some (.pointer (some ⟨a, 0, none⟩)) := one_block hT1 1
  have HP1 := Lib.hid (h.below hB1)
  have HO := Lib.hid ho
  clear ho hT1
  go_wp2_with fail
  refine (store_yes a f (8 * k) 8 cap (some ⟨g, 0, none⟩) (laid (fun _ => 0) (fun i => x / 256 ^ i % 256) 0 8) w1 S p HP1.out hf h1 (by omega) (by omega) HO.out.v (fun j => by unfold laid; split; exact Nat.mod_lt _ (by decide); exact (by decide : (0 : Nat) < 256))).mono ?_
  rintro e w2 ⟨rfl, hP2, hm2⟩
  rw [set_word_eq] at hP2
  go_wp2_with fail
  go_end0
  exact ⟨rfl, hP2, (Mod.of hB1).trans (Out.refl _ _) hm2⟩

theorem or_page (f m : Nat) (hm : m < 4096) : f * 4096 ||| m = f * 4096 + m := by
  have := Nat.two_pow_add_eq_or_of_lt (i := 12) (b := m) hm f
  rw [show (2 : Nat) ^ 12 = 4096 from by decide, Nat.mul_comm] at this
  exact this.symm
theorem or_small : ∀ q : Fin 8, (q.val * 2 ||| 1) = q.val * 2 + 1 ∧ ((q.val * 2 + 1) ||| 16) = q.val * 2 + 17 := by decide
theorem or_one (f q : Nat) (hq : q ≤ 7) : (f * 4096 + q * 2) ||| 1 = f * 4096 + q * 2 + 1 := by
  have s1 : q * 2 ||| 1 = q * 2 + 1 := (or_small ⟨q, by omega⟩).1
  have h := or_page f (q * 2) (by omega)
  have h2 := or_page f (q * 2 + 1) (by omega)
  rw [← h, Nat.or_assoc, s1, h2, h]
  omega
theorem or_sixteen (f q : Nat) (hq : q ≤ 7) : (f * 4096 + q * 2 + 1) ||| 16 = f * 4096 + q * 2 + 1 + 16 := by
  have s1 : (q * 2 + 1) ||| 16 = q * 2 + 17 := (or_small ⟨q, by omega⟩).2
  have h := or_page f (q * 2 + 1) (by omega)
  have h2 := or_page f (q * 2 + 17) (by omega)
  rw [Nat.add_assoc, ← h, Nat.or_assoc, s1, h2, h]
  omega
theorem pack_bits (f q : Nat) (hf : f < 1024) (hq : q ≤ 7) : bits .or .u64 (bits .or .u64 ((f : Int) * 4096) ((q : Int) * 2)) 1 = ((f * 4096 + q * 2 + 1 : Nat) : Int) := by
  have e1 : ((f : Int) * 4096) = ((f * 4096 : Nat) : Int) := by simp
  have e2 : ((q : Int) * 2) = ((q * 2 : Nat) : Int) := by simp
  have e3 : (1 : Int) = ((1 : Nat) : Int) := rfl
  rw [e1, e2, bits_or_u64_nat _ _ (by omega) (by omega), e3, or_page _ _ (by omega), bits_or_u64_nat _ _ (by omega) (by omega), or_one f q hq]
theorem pack_bits16 (f q : Nat) (hf : f < 1024) (hq : q ≤ 7) : bits .or .u64 ((f * 4096 + q * 2 + 1 : Nat) : Int) 16 = ((f * 4096 + q * 2 + 1 + 16 : Nat) : Int) := by
  have e3 : (16 : Int) = ((16 : Nat) : Int) := rfl
  rw [e3, bits_or_u64_nat _ _ (by omega) (by omega), or_sixteen f q hq]
theorem and_seven {x : Nat} (hx : x < 18446744073709551616) : bits .and .u64 ((x : Int) / 2) 7 % 256 = ((x / 2 % 8 : Nat) : Int) := by
  have e1 : ((x : Int) / 2) = ((x / 2 : Nat) : Int) := by simp
  have e3 : (7 : Int) = ((7 : Nat) : Int) := rfl
  rw [e1, e3, bits_and_u64_nat _ _ (by omega) (by omega), show (7 : Nat) = 2 ^ 3 - 1 from rfl, Nat.and_two_pow_sub_one_eq_mod]
  omega
theorem and_sixteen {x : Nat} (hx : x < 18446744073709551616) : (bits .and .u64 (x : Int) 16 != 0) = (x / 16 % 2 == 1) := by
  have e3 : (16 : Int) = ((16 : Nat) : Int) := rfl
  have h := and_two_pow_eq_zero (x : Int) 4 (by omega)
  rw [Int.toNat_natCast, show ((2 : Int) ^ 4).toNat = 16 from rfl, show (2 : Int) ^ 4 = 16 from rfl] at h
  rw [e3, bits_and_u64_nat _ _ hx (by omega)]
  by_cases h0 : x &&& 16 = 0
  · have h2 := h.1 h0
    rw [h0, show (x / 16 % 2 == 1) = false from by rw [beq_eq_false_iff_ne]; omega]
    rfl
  · have h2 : (x : Int) / 16 % 2 = 1 := Decidable.by_contra fun e => h0 (h.2 e)
    rw [show (x / 16 % 2 == 1) = true from by rw [beq_iff_eq]; omega, bne_iff_ne]
    omega
set_option maxHeartbeats 1000000 in
theorem tpack_any (l : Leaf) (w : World) (h : l.prot ≤ 7) (hf : l.frame < 1024) :
    Calls Tryz.prog 91 #[.agg #[.int .i64 (l.frame : Int), .int .u8 (l.prot : Int), .bool l.copy]] w fun e w' => e = .returned (.int .u64 (l.pack : Int)) ∧ Below w.heap.size w w' := by
  obtain ⟨f, q, c⟩ := l
  simp only at h hf
  have h1 := pack_bits f q hf h
  have h2 := pack_bits16 f q hf h
  have H1 := Lib.hid h1
  have H2 := Lib.hid h2
  clear h1 h2
  cases c
  · go_enter Tryz.func91, Tryz.ntmps91
    go_wp2
    go_ret
    exact ⟨ret_int (by rw [H1.out]; simp [Leaf.pack]), (Below.refl _ _).alloc (Nat.le_refl _) _⟩
  · go_enter Tryz.func91, Tryz.ntmps91
    go_wp2
    go_ret
    exact ⟨ret_int (by rw [H1.out, H2.out]; simp [Leaf.pack]), (Below.refl _ _).alloc (Nat.le_refl _) _⟩

set_option maxHeartbeats 1000000 in
theorem tunpack_any (x : Nat) (w : World) (hx : x < 18446744073709551616) :
    Calls Tryz.prog 94 #[.int .u64 (x : Int)] w fun e w' => e = .returned (.agg #[.int .i64 ((unpack x).frame : Int), .int .u8 ((unpack x).prot : Int), .bool (unpack x).copy]) ∧ Below w.heap.size w w' := by
  go_enter Tryz.func94, Tryz.ntmps94
  go_wp2
  rw [and_seven hx, and_sixteen hx]
  exact bodyPost_ret (v := .agg #[.int .i64 ((unpack x).frame : Int), .int .u8 ((unpack x).prot : Int), .bool (unpack x).copy]) (by simp [results, Tryz.results94, go_sem, unpack]) rfl ⟨rfl, (Below.refl _ _).alloc (Nat.le_refl _) _⟩

end Go.Proofs.YtmkgdgfbdmjeeaaGreatDoor
