/- Words: the checks of Get and Set at eight bytes. Words: Clone of bytes, Set at eight bytes. Rows of ints that the call makes. -/
import Derived.Test.YtkkmcnngpahfaaaGreatDoorTfZ
import Derived.Deep.AppendLies
import Derived.Deep.Upon

namespace Go.Proofs.YtkkmcnngpahfaaaGreatDoor
open Go.RowKit
set_option linter.unusedSimpArgs false
set_option linter.unusedVariables false

set_option maxHeartbeats 400000 in
theorem index_8 (g : Nat) (w : World) (h0 : w.cell? ⟨g, 0, none⟩ = some (.int .i64 1)) (h1 : w.cell? ⟨g, 1, none⟩ = some (.int .i64 2)) (h2 : w.cell? ⟨g, 2, none⟩ = some (.int .i64 4)) (h3 : w.cell? ⟨g, 3, none⟩ = some (.int .i64 8)) :
    Calls Tryz.prog 170 #[.slice (some ⟨g, 0, none⟩) 4 4, .int .i64 8] w fun e w' => e = .returned (.int .i64 3) ∧ w = w' := by
  go_enter Tryz.func170, Tryz.ntmps170
  go_wp2
  go_loop [8] (fun i => ∃ k : Nat, k ≤ 3 ∧ i = .int .i64 k) (fun i => 4 - (intOf i).toNat)
  case atStart => exact ⟨0, Nat.zero_le _, rfl⟩
  case round =>
    obtain ⟨k, hk, rfl⟩ := hrel
    rcases (show k = 0 ∨ k = 1 ∨ k = 2 ∨ k = 3 by omega) with rfl | rfl | rfl | rfl
    · go_wp2
      go_round
      case rel => exact ⟨1, by omega, by go_num⟩
      case measure => simp [intOf]
    · go_wp2
      go_round
      case rel => exact ⟨2, by omega, by go_num⟩
      case measure => simp [intOf]
    · go_wp2
      go_round
      case rel => exact ⟨3, by omega, by go_num⟩
      case measure => simp [intOf]
    · go_wp2
      go_ret
      exact ⟨rfl, rfl⟩

set_option maxHeartbeats 400000 in
theorem contains_8 (g : Nat) (w : World) (h0 : w.cell? ⟨g, 0, none⟩ = some (.int .i64 1)) (h1 : w.cell? ⟨g, 1, none⟩ = some (.int .i64 2)) (h2 : w.cell? ⟨g, 2, none⟩ = some (.int .i64 4)) (h3 : w.cell? ⟨g, 3, none⟩ = some (.int .i64 8)) :
    Calls Tryz.prog 164 #[.slice (some ⟨g, 0, none⟩) 4 4, .int .i64 8] w fun e w' => e = .returned (.bool true) ∧ w = w' := by
  go_enter Tryz.func164, Tryz.ntmps164
  go_wp2_with (go_at_call 170; refine (index_8 g _ h0 h1 h2 h3).mono ?_; rintro e w1 ⟨rfl, rfl⟩)
  go_ret
  exact ⟨rfl, rfl⟩

set_option maxHeartbeats 400000 in
theorem sized_8 (w : World) : Calls Tryz.prog 150 #[.int .i64 8] w fun e w' => e = .returned (.bool true) ∧ Below w.heap.size w w' := by
  go_enter Tryz.func150, Tryz.ntmps150
  go_wp2_with (go_at_call 164; refine (contains_8 w.heap.size _ (by simp) (by simp) (by simp) (by simp)).mono ?_; rintro e w1 ⟨rfl, rfl⟩)
  go_ret
  exact ⟨rfl, (Below.refl _ _).alloc (Nat.le_refl _) _⟩

theorem not_8 : bits .xor .u64 (if IntKind.u64.signed = true then -1 else IntKind.u64.max) 8 = 18446744073709551607 := by decide +kernel
theorem no_8 (a : Nat) (ha : a ≤ 1000000) : ¬ bits .xor .u64 (if IntKind.u64.signed = true then -1 else IntKind.u64.max) 8 < (a : Int) := by
  rw [not_8]
  omega
set_option maxHeartbeats 400000 in
theorem add_8 (a : Nat) (w : World) (ha : a ≤ 1000000) : Calls Tryz.prog 165 #[.int .u64 (a : Int), .int .u64 8] w fun e w' => e = .returned (.tuple #[.int .u64 ((a : Int) + 8), .bool true]) ∧ w = w' := by
  have hno := no_8 a ha
  go_enter Tryz.func165, Tryz.ntmps165
  go_wp2
  all_goals
    go_ret2
    exact ⟨rfl, rfl⟩

set_option maxHeartbeats 400000 in
theorem inside_8 (a n : Nat) (w : World) (ha : a + 8 ≤ n) (hn : n ≤ 1000000) : Calls Tryz.prog 151 #[.int .u64 (a : Int), .int .u64 8, .int .u64 (n : Int)] w fun e w' => e = .returned (.bool true) ∧ w = w' := by
  have hle : decide ((a : Int) + 8 ≤ (n : Int)) = true := decide_eq_true (by omega)
  go_enter Tryz.func151, Tryz.ntmps151
  go_wp2_with (go_at_call 165; refine (add_8 a _ (by omega)).mono ?_; rintro e w1 ⟨rfl, rfl⟩)
  go_ret
  exact ⟨rfl, rfl⟩

set_option maxHeartbeats 400000 in
theorem check_8 (a n c : Nat) (A : Option Addr) (w : World) (ha : a + 8 ≤ n) (hn : n ≤ 1000000) : Calls Tryz.prog 135 #[.slice A n c, .int .u64 (a : Int), .int .i64 8] w fun e w' => e = .returned (.int .i64 0) ∧ Below w.heap.size w w' := by
  go_enter Tryz.func135, Tryz.ntmps135
  go_wp2_with (first
    | (go_at_call 150; refine (sized_8 _).mono ?_; rintro e w1 ⟨rfl, hb1⟩)
    | (go_at_call 151; refine (inside_8 a n _ ha hn).mono ?_; rintro e w1 ⟨rfl, rfl⟩))
  go_ret
  exact ⟨rfl, hb1⟩

set_option maxHeartbeats 1000000 in
theorem get_8 (a n c b : Nat) (d : Nat → Nat) (w : World) (ha : a + 8 ≤ n) (hn : n ≤ 1000000) (hb : BytesAt w b n d) (hd : ∀ i, d i < 256) (hbw : b < w.heap.size) :
    Calls Tryz.prog 120 #[.slice (some ⟨b, 0, none⟩) n c, .int .u64 (a : Int), .int .i64 8] w fun e w' => e = .returned (.tuple #[.int .u64 ((leVal d a 8 : Nat) : Int), .int .i64 0]) ∧ Below w.heap.size w w' := by
  go_enter Tryz.func120, Tryz.ntmps120
  go_wp2_with (go_at_call 135; refine (check_8 a n c _ _ ha hn).mono ?_; rintro e w1 ⟨rfl, hb1⟩)
  have hB : BytesAt w1 b n d := (hb1.block b hbw).trans hb
  have HB := Lib.hid hB
  clear hB hb
  go_loop [6, 18] (fun x i => ∃ k : Nat, k ≤ 8 ∧ i = .int .i64 k ∧ x = .int .u64 ((leVal d a k : Nat) : Int)) (fun _ i => 8 - (intOf i).toNat)
  case atStart => exact ⟨0, Nat.zero_le _, rfl, rfl⟩
  case round =>
    obtain ⟨k, hk, rfl, rfl⟩ := hrel
    by_cases hlt : k < 8
    · have hc := row_cell HB.out (i := a + k) (by omega)
      have hdk := hd (a + k)
      go_wp2
      go_round
      case rel => exact ⟨k + 1, by omega, by go_num, by rw [or_shift (leVal_lt hd a k) hdk hlt]; rfl⟩
      case measure => simp [intOf]; omega
    · obtain rfl : k = 8 := by omega
      go_wp2
      go_ret2
      exact ⟨rfl, hb1⟩

end Go.Proofs.YtkkmcnngpahfaaaGreatDoor

namespace Go.Proofs.YtkkmcnngpahfaaaGreatDoor
open Go.RowKit
set_option linter.unusedSimpArgs false
set_option linter.unusedVariables false

/-- A row of bytes that the call owns, with spare room behind it or not. -/
def OwnB (w : World) (base : Nat) (A : Option Addr) (cap n : Nat) (d : Nat → Nat) : Prop := w.ownsRow base 5 1 (.slice A n cap) n ((List.range n).map fun j => Value.int .u8 (d j : Int))
theorem OwnB.cell {w : World} {base g cap n : Nat} {d : Nat → Nat} (h : OwnB w base (some ⟨g, 0, none⟩) cap n d) {j : Nat} (hj : j < n) : w.cell? ⟨g, j, none⟩ = some (.int .u8 (d j : Int)) := by
  rw [World.ownsRow.cellAt h j (by omega), List.getElem?_map, List.getElem?_range hj]
  rfl
theorem OwnB.v {w : World} {base g cap n : Nat} {d : Nat → Nat} (h : OwnB w base (some ⟨g, 0, none⟩) cap n d) : BytesV w (some ⟨g, 0, none⟩) n d := fun _ => ⟨_, rfl, fun j hj => by
  rw [Addr.add_mid, Nat.zero_add]
  exact h.cell hj⟩
theorem OwnB.put {w : World} {base g cap n : Nat} {d : Nat → Nat} (h : OwnB w base (some ⟨g, 0, none⟩) cap n d) {j x : Nat} (hj : j < n) : OwnB (w.setCell ⟨g, j, none⟩ (.int .u8 (x : Int))) base (some ⟨g, 0, none⟩) cap n (upd d j x) := by
  have h1 := World.ownsRow.stored h j (.int .u8 (x : Int))
  unfold OwnB
  have e : ((List.range n).map fun i => Value.int .u8 ((upd d j x i : Nat) : Int)) = ((List.range n).map fun i => Value.int .u8 (d i : Int)).set j (.int .u8 (x : Int)) := by
    apply List.ext_getElem?
    intro i
    rw [List.getElem?_set]
    by_cases hi : i < n
    · rw [List.getElem?_map, List.getElem?_range hi]
      by_cases e : j = i
      · subst e
        rw [if_pos rfl, if_pos (by simpa using hi)]
        simp [upd_same]
      · rw [if_neg e, List.getElem?_map, List.getElem?_range hi]
        simp [upd_ne _ _ (fun e' => e e'.symm : i ≠ j)]
    · rw [List.getElem?_eq_none (by simp; omega), List.getElem?_eq_none (by simp; omega)]
      split <;> first | rfl | (rw [if_neg (by simp; omega)])
  rw [e]
  exact h1.1

theorem OwnB.none_made (w : World) : OwnB (w.alloc (.cells #[] 5)) w.heap.size (some ⟨w.heap.size, 0, none⟩) 0 0 (fun _ => 0) :=
  ⟨rfl, .inr ⟨w.heap.size, 0, #[], rfl, Nat.le_refl _, heap_alloc_new w _, Nat.le_refl _, by decide, rfl, rfl⟩⟩
theorem laid_step (d e : Nat → Nat) (k i : Nat) : upd (laid d e 0 k) k (e k) i = laid d e 0 (k + 1) i := by
  unfold laid upd
  simp only
  by_cases h : i = k
  · subst h
    rw [if_pos rfl, if_pos (by omega), Nat.sub_zero]
  · rw [if_neg h]
    by_cases h2 : i < k
    · rw [if_pos (show 0 ≤ i ∧ i < 0 + k by omega), if_pos (show 0 ≤ i ∧ i < 0 + (k + 1) by omega)]
    · rw [if_neg (show ¬ (0 ≤ i ∧ i < 0 + k) by omega), if_neg (show ¬ (0 ≤ i ∧ i < 0 + (k + 1)) by omega)]
/-- append of bytes to a row of the call's own -/
theorem app_bytes {w : World} {ops : Array Oper} {rest : List Oper} {o : Oper} {a : Act} {Q : Exit → Act → World → Prop} (hgd : o.guard = none) (s x : Operand)
    (ho : o.op = .call { callee := .builtin .append, args := #[s, x], argTypes := #[99, 99] })
    (base : Nat) (A : Option Addr) (cap k : Nat) (e : Nat → Nat) (hs : a.eval s = .slice A k cap) (hown : OwnB w base A cap k e)
    (ad : Addr) (n c : Nat) (d : Nat → Nat) (hx : a.eval x = .slice (some ad) n c) (hA : BytesV w (some ad) n d) (hn : 0 < n) (hfew : k + n ≤ 10000000) (hbase : base ≤ w.heap.size)
    (h : ∀ g cap' w', OwnB w' base (some ⟨g, 0, none⟩) cap' (k + n) (fun i => if i < k then e i else d (i - k)) → w.grownBy w' (A.map (·.block)) → (A.map (·.block) = some g ∨ g = w.heap.size) → g < w'.heap.size → wpList Tryz.prog ops Q rest (a.put o.dst (.slice (some ⟨g, 0, none⟩) (k + n) cap')) w') :
    wpList Tryz.prog ops Q (o :: rest) a w := by
  obtain ⟨i0, hi0, hz0, hz1, hz2⟩ := info_parts u8_info
  obtain ⟨ad', e', hcs⟩ := hA hn
  injection e' with e'
  subst e'
  refine wpList_append_lies w hgd s x 99 ho base 5 i0 (.int .u8 0) 1 1 Tryz.underlying99 hi0 hz0 hz1 hz2 rfl (by decide) _ k _ hs hown ad n c ((List.range n).map fun j => Value.int .u8 (d j : Int)) hx (by simp) (fun j u hu => ?_) (fun u hu => ?_) hn (by unfold maxLen; omega) (by omega) hbase w.heap.size rfl ?_
  · have hj : j < n := by
      have := (List.getElem?_eq_some_iff.1 hu).1
      simpa using this
    rw [List.getElem?_map, List.getElem?_range hj] at hu
    simp only [Option.map_some, Option.some.injEq] at hu
    subst hu
    exact hcs j hj
  · obtain ⟨i, _, rfl⟩ := List.mem_map.1 hu
    rfl
  · intro g cap' w' ho' hg hat hlt
    refine h g cap' w' ?_ ?_ ?_ hlt
    · unfold OwnB
      have e2 : ((List.range (k + n)).map fun j => Value.int .u8 ((if j < k then e j else d (j - k) : Nat) : Int)) = ((List.range k).map fun j => Value.int .u8 (e j : Int)) ++ ((List.range n).map fun j => Value.int .u8 (d j : Int)) := by
        have e3 : ((List.range k).map fun j => Value.int .u8 ((if j < k then e j else d (j - k) : Nat) : Int)) = (List.range k).map fun j => Value.int .u8 (e j : Int) := List.map_congr_left fun j hj => by rw [if_pos (List.mem_range.1 hj)]
        have e4 : (((List.range n).map (k + ·)).map fun j => Value.int .u8 ((if j < k then e j else d (j - k) : Nat) : Int)) = (List.range n).map fun j => Value.int .u8 (d j : Int) := by
          rw [List.map_map]
          exact List.map_congr_left fun j hj => by
            simp only [Function.comp]
            rw [if_neg (by omega), Nat.add_sub_cancel_left]
        rw [List.range_add, List.map_append, e3, e4]
      rw [e2]
      exact ho'
    · cases A <;> simpa [Value.ownBlock] using hg
    · cases A <;> simpa [Value.ownBlock] using hat
theorem OwnB.congr {w : World} {base cap n : Nat} {A : Option Addr} {d e : Nat → Nat} (h : OwnB w base A cap n d) (hde : ∀ i, i < n → d i = e i) : OwnB w base A cap n e := by
  unfold OwnB
  rw [← List.map_congr_left (f := fun j => Value.int .u8 (d j : Int)) (fun j hj => by rw [hde j (List.mem_range.1 hj)])]
  exact h
theorem OwnB.lower {w : World} {base base' cap n : Nat} {A : Option Addr} {d : Nat → Nat} (h : OwnB w base A cap n d) (hb : base' ≤ base) : OwnB w base' A cap n d := by
  rcases h with ⟨h1, h2 | ⟨g, cap', cur, e1, e2, e3⟩⟩
  · exact ⟨h1, .inl h2⟩
  · exact ⟨h1, .inr ⟨g, cap', cur, e1, by omega, e3⟩⟩
theorem OwnB.form {w : World} {base g cap n : Nat} {d : Nat → Nat} (h : OwnB w base (some ⟨g, 0, none⟩) cap n d) : base ≤ g ∧ g < w.heap.size := World.ownsRow.lt h g rfl

set_option maxRecDepth 100000 in
set_option maxHeartbeats 1000000 in
theorem clone_any (n c : Nat) (ad : Addr) (d : Nat → Nat) (w : World) (hn : 0 < n) (hn2 : n ≤ 1000000) (hA : BytesV w (some ad) n d) (had : ad.block < w.heap.size) :
    Calls Tryz.prog 124 #[.slice (some ad) n c] w fun e w' => ∃ g cap, e = .returned (.slice (some ⟨g, 0, none⟩) n cap) ∧ OwnB w' w.heap.size (some ⟨g, 0, none⟩) cap n d ∧ Below w.heap.size w w' := by
  have hA1 := hA.below (w' := w.alloc (.cells #[] 5)) (B := w.heap.size) ((Below.refl _ _).alloc (Nat.le_refl _) _) (fun x hx => by injection hx with hx; subst hx; exact had)
  have HA1 := Lib.hid hA1
  clear hA1 hA
  have hnil := fun (W : World) => Lib.run_eql_slice_nil (P := Tryz.prog) (w := W) 99 5 (some ad) n c 0 0 Tryz.underlying99
  go_enter Tryz.func124, Tryz.ntmps124
  go_upto_region 3 with (fail)
  go_wp2_with (at_builtin; refine app_bytes rfl (.tmp 5) (.tmp 6) rfl w.heap.size (some ⟨w.heap.size, 0, none⟩) 0 0 (fun _ => 0) rfl (OwnB.none_made w) ad n c d rfl HA1.out hn (by omega) (by simp) ?_; intro g cap w2 ho hg hat hlt)
  have hb : Below w.heap.size w w2 := ((Below.refl _ _).alloc (Nat.le_refl _) _).grown hg (by simp) (fun k hk => by simp at hk; omega)
  have HO := Lib.hid ho
  clear ho hg hat
  go_ret
  exact ⟨g, cap, rfl, (show OwnB w2 w.heap.size (some ⟨g, 0, none⟩) cap n _ from by have h9 := HO.out; rw [Nat.zero_add] at h9; exact h9).congr (fun i _ => by simp), hb⟩

set_option maxRecDepth 100000 in
set_option maxHeartbeats 2000000 in
theorem set_8 (n c b x : Nat) (w : World) (hn8 : 8 ≤ n) (hn : n ≤ 1000000) (d : Nat → Nat) (hb : BytesAt w b n d) (hbw : b < w.heap.size) (hx : x < 18446744073709551616) :
    Calls Tryz.prog 121 #[.slice (some ⟨b, 0, none⟩) n c, .int .u64 0, .int .i64 8, .int .u64 (x : Int)] w fun e w' => ∃ g cap, e = .returned (.tuple #[.slice (some ⟨g, 0, none⟩) n cap, .int .i64 0]) ∧ OwnB w' w.heap.size (some ⟨g, 0, none⟩) cap n (laid d (fun i => x / 256 ^ i % 256) 0 8) ∧ Below w.heap.size w w' := by
  go_enter Tryz.func121, Tryz.ntmps121
  go_wp2_with fail
  refine (check_8 0 n c _ _ (by omega) hn).mono ?_
  rintro e w1 ⟨rfl, hb1⟩
  have hB1 : BytesAt w1 b n d := (hb1.block b hbw).trans hb
  have hz1 := hb1.size
  go_wp2_with fail
  refine (clone_any n c ⟨b, 0, none⟩ d w1 (by omega) hn hB1.v (Nat.lt_of_lt_of_le hbw hz1)).mono ?_
  rintro e w2 ⟨g, cap, rfl, ho, hb2⟩
  have hz2 := hb2.size
  have HO := Lib.hid ho
  clear ho hB1 hb
  go_wp2_with fail
  go_loopw [23] (fun i wr => ∃ k : Nat, k ≤ 8 ∧ i = .int .i64 k ∧ OwnB wr w1.heap.size (some ⟨g, 0, none⟩) cap n (laid d (fun i => x / 256 ^ i % 256) 0 k) ∧ Below w.heap.size w wr) (fun i _ => 8 - (intOf i).toNat)
  case atStart => exact ⟨0, Nat.zero_le _, rfl, HO.out.congr (fun i _ => by unfold laid; rw [if_neg (by omega)]), hb1.trans (hb2.mono hz1)⟩
  case round =>
    obtain ⟨k, hk, rfl, ho, hB⟩ := hrel
    have hg := ho.form
    by_cases hlt : k < 8
    · have hc := ho.cell (j := k) (by omega)
      have hf := World.ownsRow.frozenAt ho k
      have HO2 := Lib.hid ho
      clear ho
      have hv : ((x : Int) / 2 ^ (8 * k) % 256) = ((x / 256 ^ k % 256 : Nat) : Int) := by
        have e : (2 : Nat) ^ (8 * k) = 256 ^ k := by rw [Nat.pow_mul]
        rw [← e]
        simp
      have HV := Lib.hid hv
      clear hv
      go_wp2
      rw [HV.out]
      go_roundw
      case rel => exact ⟨k + 1, by omega, by go_num, (HO2.out.put (j := k) (by omega)).congr (fun i _ => laid_step d (fun i => x / 256 ^ i % 256) k i), hB.setCell (by show w.heap.size ≤ g; omega) _⟩
      case measure => simp [intOf]; omega
    · obtain rfl : k = 8 := by omega
      have HO2 := Lib.hid (ho.lower hz1)
      clear ho
      go_wp2
      go_ret2
      exact ⟨g, cap, rfl, HO2.out, hB⟩

end Go.Proofs.YtkkmcnngpahfaaaGreatDoor

namespace Go.Proofs.YtkkmcnngpahfaaaGreatDoor
open Go.RowKit
set_option linter.unusedSimpArgs false
set_option linter.unusedVariables false

def OwnN (w : World) (base : Nat) (A : Option Addr) (cap : Nat) (l : List Nat) : Prop := w.ownsRow base 3 1 (.slice A l.length cap) l.length (l.map fun x : Nat => Value.int .i64 (x : Int))
theorem OwnN.nil (w : World) (base : Nat) : OwnN w base none 0 [] := World.ownsRow_nil w base _ 1
theorem OwnN.form {w : World} {base : Nat} {A : Option Addr} {cap : Nat} {l : List Nat} (h : OwnN w base A cap l) : (A = none ∧ l = [] ∧ cap = 0) ∨ ∃ g, A = some ⟨g, 0, none⟩ ∧ base ≤ g ∧ g < w.heap.size ∧ l.length ≤ cap := by
  rcases h.2 with ⟨h2, h3⟩ | ⟨g, cap', cur, h1, h2, h3, h4, _⟩
  · injection h2 with h4 h5 h6
    exact .inl ⟨h4, List.eq_nil_of_length_eq_zero h3, h6⟩
  · injection h1 with e1 e2 e3
    subst e3
    exact .inr ⟨g, e1, h2, (Array.getElem?_eq_some_iff.1 h3).1, h4⟩
/-- The row's block stands: so does the row. -/
theorem OwnN.same {w w' : World} {base : Nat} {A : Option Addr} {cap : Nat} {l : List Nat} (h : OwnN w base A cap l) (hb : ∀ g, A = some ⟨g, 0, none⟩ → w'.heap[g]? = w.heap[g]?) : OwnN w' base A cap l := by
  refine ⟨h.1, ?_⟩
  rcases h.2 with h2 | ⟨g, cap', cur, h1, h2, h3, h4⟩
  · exact .inl h2
  · injection h1 with e1 e2 e3
    exact .inr ⟨g, cap', cur, by rw [e1, e2, e3], h2, (hb g e1).trans h3, h4⟩
theorem OwnN.below {w w' : World} {base B : Nat} {A : Option Addr} {cap : Nat} {l : List Nat} (h : OwnN w base A cap l) (hb : Below B w w') (hB : w.heap.size ≤ B) : OwnN w' base A cap l :=
  World.ownsRow.kept h (row := none) ⟨hb.os, hb.tape, hb.output, hb.size, fun k hk _ => hb.block k (by omega)⟩ (by cases A <;> simp [Value.ownBlock])
theorem OwnN.alloc {w : World} {base : Nat} {A : Option Addr} {cap : Nat} {l : List Nat} (h : OwnN w base A cap l) (o : Obj) : OwnN (w.alloc o) base A cap l := World.ownsRow.alloc h o
theorem OwnN.elem {w : World} {base g : Nat} {cap : Nat} {l : List Nat} (h : OwnN w base (some ⟨g, 0, none⟩) cap l) {j : Nat} {t : Nat} (hp : l[j]? = some t) : w.cell? ⟨g, j, none⟩ = some (.int .i64 (t : Int)) := by
  have hk : j < l.length := (List.getElem?_eq_some_iff.1 hp).1
  rw [World.ownsRow.cellAt h j (by omega), List.getElem?_map, hp]
  rfl
theorem app_int {w : World} {ops : Array Oper} {rest : List Oper} {o : Oper} {a : Act} {Q : Exit → Act → World → Prop} (hgd : o.guard = none) (s x : Operand)
    (ho : o.op = .call { callee := .builtin .append, args := #[s, x], argTypes := #[55, 55] })
    (base : Nat) (A : Option Addr) (cap : Nat) (l : List Nat) (hs : a.eval s = .slice A l.length cap) (hown : OwnN w base A cap l)
    (t : Nat) (b c : Nat) (hx : a.eval x = .slice (some ⟨b, 0, none⟩) 1 c) (hb : w.heap[b]? = some (.cells #[.int .i64 (t : Int)] 3 (0, 0)))
    (hfew : l.length < 1000000) (hbase : base ≤ w.heap.size)
    (h : ∀ g cap' w', OwnN w' base (some ⟨g, 0, none⟩) cap' (l ++ [t]) → w.grownBy w' (A.map (·.block)) → (A.map (·.block) = some g ∨ g = w.heap.size) → g < w'.heap.size → wpList Tryz.prog ops Q rest (a.put o.dst (.slice (some ⟨g, 0, none⟩) (l.length + 1) cap')) w') :
    wpList Tryz.prog ops Q (o :: rest) a w := by
  obtain ⟨i0, hi0, hz0, hz1, hz2⟩ := info_parts int_info
  refine wpList_append_lies w hgd s x 55 ho base 3 i0 _ 1 8 Tryz.underlying55 hi0 hz0 hz1 hz2 rfl (by omega) _ l.length (l.map fun x : Nat => Value.int .i64 (x : Int)) hs hown ⟨b, 0, none⟩ 1 c [.int .i64 (t : Int)] hx rfl (World.news_of_block (cs := #[.int .i64 (t : Int)]) hb)
    (by simp [Value.oneCell']) (by omega) (by unfold maxLen; omega) (by omega) hbase w.heap.size rfl ?_
  intro g cap' w' ho' hg hat hlt
  refine h g cap' w' ?_ ?_ ?_ hlt
  · unfold OwnN
    rw [List.map_append, List.length_append]
    exact ho'
  · cases A <;> simpa [Value.ownBlock] using hg
  · cases A <;> simpa [Value.ownBlock] using hat

end Go.Proofs.YtkkmcnngpahfaaaGreatDoor
