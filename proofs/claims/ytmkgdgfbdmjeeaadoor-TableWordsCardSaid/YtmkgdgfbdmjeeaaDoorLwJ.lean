/- The table's statements: a frame's word; who goes down the words alone. -/
import Derived.Test.YtmkgdgfbdmjeeaaDoorTvA
import Derived.Test.YtmkgdgfbdmjeeaaDoorTtF
namespace Go.Proofs.YtmkgdgfbdmjeeaaDoor
open Go.RowKit Go.Sort
set_option linter.unusedSimpArgs false
set_option linter.unusedVariables false

theorem leVal_cons (d : Nat → Nat) (o n : Nat) : leVal d o (n + 1) = d o + 256 * leVal d (o + 1) n := by
  induction n with
  | zero => simp [leVal]
  | succ n ih =>
    have h1 : leVal d o (n + 1 + 1) = leVal d o (n + 1) + d (o + (n + 1)) * 256 ^ (n + 1) := rfl
    have h2 : leVal d (o + 1) (n + 1) = leVal d (o + 1) n + d (o + 1 + n) * 256 ^ n := rfl
    rw [h1, ih, h2, Nat.pow_succ, Nat.mul_add, show o + (n + 1) = o + 1 + n from by omega]
    have : d (o + 1 + n) * (256 ^ n * 256) = 256 * (d (o + 1 + n) * 256 ^ n) := by rw [Nat.mul_comm (256 ^ n) 256, Nat.mul_left_comm]
    omega

set_option maxRecDepth 100000 in
set_option maxHeartbeats 1000000 in
theorem wordAt_any (a f k : Nat) (w : World) (S : Nat → Prop) (p : Pool) (h : PoolAt w S a p) (hf : f < p.n) (h1 : 1 ≤ p.cnt f) (hk : k < 512) :
    Calls Tryd.prog 32 #[.pointer (some ⟨a, 0, none⟩), .int .i64 (f : Int), .int .i64 (k : Int)] w fun e w' => e = .returned (.tuple #[.int .u64 ((word (p.dat f) k : Nat) : Int), .bool true]) ∧ Below w.heap.size w w' := by
  obtain ⟨off, hoff⟩ : ∃ off : Nat, off = 8 * k := ⟨_, rfl⟩
  have hload := load_yes a f off 8 w S p h hf h1 (by omega) (by omega)
  have hmul : IntKind.i64.wrap (8 * (k : Int)) = (off : Int) := by rw [IntKind.wrap_i64]; omega
  have hsm : ∀ i, p.dat f i < 256 := fun i => by
    obtain ⟨C, B, F, wd, pt, hi, _⟩ := h.is
    exact hi.small f i
  have hw : word (p.dat f) k = leVal (p.dat f) (off + 0) 8 := by unfold word; rw [hoff]; rfl
  have HW := Lib.hid hw
  have HL := Lib.hid hload
  have HS := Lib.hid hsm
  clear h hload hoff hsm hw
  go_enter Tryd.func32, Tryd.ntmps32
  go_wp2_with (first
    | (go_at_call 47; refine (HL.out).mono ?_; rintro e w1 ⟨rfl, hB, hlt1, hb1⟩; have HB := Lib.hid hB; clear hB)
    | fail)
  go_loopw [10, 11] (fun x i wr => ∃ j : Nat, j ≤ 8 ∧ i = .int .i64 ((j : Int) - 1) ∧ x = .int .u64 ((leVal (p.dat f) (off + j) (8 - j) : Nat) : Int) ∧ wr = w1) (fun _ i _ => ((intOf i) + 1).toNat)
  case atStart => exact ⟨8, by omega, by go_num, by rfl, rfl⟩
  case round =>
    obtain ⟨j, hj, rfl, rfl, rfl⟩ := hrel
    rcases Nat.eq_zero_or_pos j with rfl | hj0
    · have e0 : ((0 : Nat) : Int) - 1 = -1 := by omega
      rw [e0]
      have hlow : decide ((0 : Int) ≤ -1) = false := by decide
      go_wp2_with fail
      go_ret2
      exact ⟨by rw [HW.out]; rfl, hb1⟩
    · obtain ⟨i, rfl⟩ : ∃ i, j = i + 1 := ⟨j - 1, by omega⟩
      have e0 : ((i + 1 : Nat) : Int) - 1 = (i : Int) := by omega
      rw [e0]
      have hcell : wr.cell? ⟨w.heap.size, i, none⟩ = some (.int .u8 ((p.dat f (off + i) : Nat) : Int)) := row_cell HB.out (by omega)
      have hb256 := HS.out (off + i)
      obtain ⟨b, hb⟩ : ∃ b, b = p.dat f (off + i) := ⟨_, rfl⟩
      rw [← hb] at hcell hb256
      obtain ⟨X, hX⟩ : ∃ X, X = leVal (p.dat f) (off + (i + 1)) (8 - (i + 1)) := ⟨_, rfl⟩
      have hXlt : X < 72057594037927936 := by
        rw [hX]
        have h9 := leVal_lt HS.out (off + (i + 1)) (8 - (i + 1))
        have h8 : (256 : Nat) ^ (8 - (i + 1)) ≤ 256 ^ 7 := Nat.pow_le_pow_right (by omega) (by omega)
        have h7 : (256 : Nat) ^ 7 = 72057594037927936 := by decide
        omega
      have hnext : leVal (p.dat f) (off + i) (8 - i) = X * 256 + b := by
        rw [show 8 - i = (8 - (i + 1)) + 1 from by omega, leVal_cons, hX, hb, Nat.add_assoc]
        omega
      rw [← hX]
      have HNX := Lib.hid hnext
      have hi8 : (i : Int) < 8 := by omega
      have hor := or_at (a := X) (b := b) (i := 8) (by omega) (by omega)
      have HOR := Lib.hid hor
      clear hb hX hnext hor
      go_wp2_with fail
      go_roundw
      case rel =>
        refine ⟨i, by omega, rfl, ?_, trivial⟩
        rw [HNX.out]
        have e := HOR.out
        have e2 : ((X * 2 ^ 8 : Nat) : Int) = (X : Int) * 256 := by omega
        have e3 : X * 2 ^ 8 + b = X * 256 + b := by omega
        rw [e2, e3] at e
        rw [e]
      case measure => (simp [intOf])

/-- No word of a node has the bits between. -/
theorem and_ffe (f : Nat) (hf : f < 1024) : bits .and .u64 ((f * 4096 + 1 : Nat) : Int) 4094 = 0 := by
  have h : ∀ q : Fin 1024, bits .and .u64 ((q.val * 4096 + 1 : Nat) : Int) 4094 = 0 := by decide +kernel
  exact h ⟨f, hf⟩
theorem and_127 {x : Nat} (hx : x < 18446744073709551616) : bits .and .u64 ((x : Int) / 32) 127 = ((x / 32 % 128 : Nat) : Int) := by
  have e1 : ((x : Int) / 32) = ((x / 32 : Nat) : Int) := by simp
  have e3 : (127 : Int) = ((127 : Nat) : Int) := rfl
  rw [e1, e3, bits_and_u64_nat _ _ (by omega) (by omega), show (127 : Nat) = 2 ^ 7 - 1 from rfl, Nat.and_two_pow_sub_one_eq_mod]
theorem pack_top (l : Leaf) (h : l.prot ≤ 7) : l.pack / 32 % 128 = 0 := by
  unfold Leaf.pack
  split <;> omega

def ledLeaf (T : Tab) (pg : Nat) : Leaf := (T.lf pg).getD noLeaf
def LedPost (w : World) (o : Option Leaf) (e : Ending) (w' : World) : Prop := e = .returned (.tuple #[.agg #[.int .i64 ((o.getD noLeaf).frame : Int), .int .u8 ((o.getD noLeaf).prot : Int), .bool (o.getD noLeaf).copy], .bool o.isSome]) ∧ Below w.heap.size w w'
theorem Tree.noLeaf {p : Pool} {T : Tab} {root : Nat} (h : Tree p T root) {pg lv : Nat} (h1 : 1 ≤ lv) (h4 : lv ≤ 4) (hn : T.nd lv (part pg lv) = none) : T.lf pg = none := by
  cases hl : T.lf pg with
  | none => rfl
  | some l =>
    have := h.ups pg l hl lv h1 h4
    rw [hn] at this
    cases this
def levelShift (lv : Nat) : Int := (2 : Int) ^ (12 + 9 * (lv - 1))

set_option maxRecDepth 100000 in
set_option maxHeartbeats 2000000 in
theorem led_any (a root xa : Nat) (w : World) (S : Nat → Prop) (p : Pool) (T : Tab) (h : PoolAt w S a p) (ht : Tree p T root) (hX : xa < 281474976710656) :
    Calls Tryd.prog 31 #[.pointer (some ⟨a, 0, none⟩), .int .i64 (root : Int), .int .u64 (xa : Int)] w (LedPost w (T.lf (xa / 4096))) := by
  obtain ⟨w0, hw0⟩ : ∃ w0, w0 = w.alloc (.cells #[.int .i64 0, .int .u8 0, .bool false] 40) := ⟨_, rfl⟩
  have hb0 : Below w.heap.size w w0 := by rw [hw0]; exact (Below.refl _ _).alloc (Nat.le_refl _) _
  have hL0 : w0.heap[w.heap.size]? = some (.cells #[.int .i64 0, .int .u8 0, .bool false] 40 (0, 0)) := by rw [hw0]; exact heap_alloc_new _ _
  have hroot : T.nd 4 (part (xa / 4096) 4) = some root := by rw [part_four _ (by omega)]; exact ht.root
  obtain ⟨pg, hpg⟩ : ∃ pg, pg = xa / 4096 := ⟨_, rfl⟩
  have s1 : ((xa : Int) / 4096 % 512) = ((num pg 1 : Nat) : Int) := by rw [hpg]; exact way_num xa 1 (by omega)
  have s2 : ((xa : Int) / 2097152 % 512) = ((num pg 2 : Nat) : Int) := by rw [hpg]; exact way_num xa 2 (by omega)
  have s3 : ((xa : Int) / 1073741824 % 512) = ((num pg 3 : Nat) : Int) := by rw [hpg]; exact way_num xa 3 (by omega)
  have s4 : ((xa : Int) / 549755813888 % 512) = ((num pg 4 : Nat) : Int) := by rw [hpg]; exact way_num xa 4 (by omega)
  rw [← hpg] at hroot ⊢
  have H := Lib.hid h
  have HT := Lib.hid ht
  have HW0 := Lib.hid hw0
  have HL0 := Lib.hid hL0
  have HR := Lib.hid hroot
  have HB0 := Lib.hid hb0
  clear h ht hw0 hL0 hroot hb0 hpg
  go_enter Tryd.func31, Tryd.ntmps31
  go_upto_region 1 with (fail)
  rw [← HW0.out]
  go_wp2_with fail
  go_loopw [8, 9] (fun f i wr => ∃ lv g : Nat, f = .int .i64 (g : Int) ∧ i = .int .i64 (lv : Int) ∧ 1 ≤ lv ∧ lv ≤ 4 ∧ T.nd lv (part pg lv) = some g ∧ Below w0.heap.size w0 wr) (fun _ i _ => (intOf i).toNat)
  case atStart => exact ⟨4, root, rfl, rfl, by omega, by omega, HR.out, Below.refl _ _⟩
  case round =>
    obtain ⟨lv, g, rfl, rfl, hl1, hl4, hnd, hbr⟩ := hrel
    obtain ⟨n1, n2, n3⟩ := (HT.out.way pg).node lv g hl1 hl4 hnd
    have hfew := (HT.out.way pg).few
    have hz0 := HB0.out.size
    have hzr := hbr.size
    have hlw : w.heap.size < w0.heap.size := (Array.getElem?_eq_some_iff.1 HL0.out).1
    have hL := (hbr.block w.heap.size hlw).trans HL0.out
    have hbwr : Below w.heap.size w wr := HB0.out.trans (hbr.mono hz0)
    have hcall := wordAt_any a g (num pg lv) wr S p (H.out.below hbwr) n1 n2 (num_lt _ _)
    rcases (by omega : lv = 1 ∨ lv = 2 ∨ lv = 3 ∨ lv = 4) with rfl | rfl | rfl | rfl
    rotate_left
    cases hch : T.nd 1 (part pg 1) with
    | none =>
      have e0 : word (p.dat g) (num pg 2) = 0 := by (rw [n3, Tab.on_more _ _ _ (by omega)]; show (match T.nd 1 (part pg 1) with | some f => f * 4096 + 1 | none => 0) = 0; rw [hch])
      rw [e0] at hcall
      have hno := HT.out.noLeaf (pg := pg) (lv := 1) (by omega) (by omega) hch
      have HC := Lib.hid hcall
      have hz := and_none
      clear hcall hch e0 n3 hnd
      rw [hno]
      clear hno
      go_upto_region 6 with (first
        | (go_at_call 32; refine (HC.out).mono ?_; rintro e w2 ⟨rfl, hb2⟩)
        | fail)
      have hz2 := hb2.size
      have hL2 := (hb2.block w.heap.size (by omega)).trans hL
      have hlt2 : w.heap.size < w2.heap.size := by omega
      have y0 : w2.cell? ⟨w.heap.size, 0, none⟩ = some (.int .i64 0) := one_block hL2 0
      have y1 : w2.cell? ⟨w.heap.size, 1, none⟩ = some (.int .u8 0) := one_block hL2 1
      have y2 : w2.cell? ⟨w.heap.size, 2, none⟩ = some (.bool false) := one_block hL2 2
      have z0 := one_free hL2 0
      have z1 := one_free hL2 1
      have z2 := one_free hL2 2
      have hbw2 : Below w.heap.size w w2 := HB0.out.trans ((hbr.mono hz0).trans (hb2.mono (by omega)))
      have HBW2 := Lib.hid hbw2
      clear hL2 hbw2
      go_wp2_with fail
      exact bodyPost_ret (v := .tuple #[.agg #[.int .i64 ((noLeaf).frame : Int), .int .u8 ((noLeaf).prot : Int), .bool (noLeaf).copy], .bool false]) (by simp [results, Tryd.results31, go_sem, noLeaf, hlt2, y0, y1, y2, z0, z1, z2]) rfl ⟨rfl, ((HBW2.out.setCell (Nat.le_refl _) _).setCell (Nat.le_refl _) _).setCell (Nat.le_refl _) _⟩
    | some f2 =>
      obtain ⟨x, hx⟩ : ∃ x, x = f2 * 4096 + 1 := ⟨_, rfl⟩
      have e0 : word (p.dat g) (num pg 2) = x := by (rw [n3, hx, Tab.on_more _ _ _ (by omega)]; show (match T.nd 1 (part pg 1) with | some f => f * 4096 + 1 | none => 0) = _; rw [hch])
      rw [e0] at hcall
      obtain ⟨m1, m2, _⟩ := (HT.out.way pg).node 1 f2 (by omega) (by omega) hch
      have hx9 : x < 18446744073709551616 := by omega
      have hodd := and_odd hx9 (by omega)
      have hffe : bits .and .u64 (x : Int) 4094 = 0 := by (rw [hx]; exact and_ffe f2 (by omega))
      have hsh : ((x : Int) / 4096) = (f2 : Int) := by omega
      have HSH := Lib.hid hsh
      have HC := Lib.hid hcall
      have HCH := Lib.hid hch
      clear hcall hch e0 n3 hnd hx hsh
      go_wp2_with (first
        | (go_at_call 32; refine (HC.out).mono ?_; rintro e w2 ⟨rfl, hb2⟩)
        | fail)
      go_roundw
      case rel => exact ⟨1, f2, by first | rw [HSH.out] | rfl, by go_num, by omega, by omega, HCH.out, hbr.trans (hb2.mono hzr)⟩
      case measure => (simp [intOf])
    cases hch : T.nd 2 (part pg 2) with
    | none =>
      have e0 : word (p.dat g) (num pg 3) = 0 := by (rw [n3, Tab.on_more _ _ _ (by omega)]; show (match T.nd 2 (part pg 2) with | some f => f * 4096 + 1 | none => 0) = 0; rw [hch])
      rw [e0] at hcall
      have hno := HT.out.noLeaf (pg := pg) (lv := 2) (by omega) (by omega) hch
      have HC := Lib.hid hcall
      have hz := and_none
      clear hcall hch e0 n3 hnd
      rw [hno]
      clear hno
      go_upto_region 6 with (first
        | (go_at_call 32; refine (HC.out).mono ?_; rintro e w2 ⟨rfl, hb2⟩)
        | fail)
      have hz2 := hb2.size
      have hL2 := (hb2.block w.heap.size (by omega)).trans hL
      have hlt2 : w.heap.size < w2.heap.size := by omega
      have y0 : w2.cell? ⟨w.heap.size, 0, none⟩ = some (.int .i64 0) := one_block hL2 0
      have y1 : w2.cell? ⟨w.heap.size, 1, none⟩ = some (.int .u8 0) := one_block hL2 1
      have y2 : w2.cell? ⟨w.heap.size, 2, none⟩ = some (.bool false) := one_block hL2 2
      have z0 := one_free hL2 0
      have z1 := one_free hL2 1
      have z2 := one_free hL2 2
      have hbw2 : Below w.heap.size w w2 := HB0.out.trans ((hbr.mono hz0).trans (hb2.mono (by omega)))
      have HBW2 := Lib.hid hbw2
      clear hL2 hbw2
      go_wp2_with fail
      exact bodyPost_ret (v := .tuple #[.agg #[.int .i64 ((noLeaf).frame : Int), .int .u8 ((noLeaf).prot : Int), .bool (noLeaf).copy], .bool false]) (by simp [results, Tryd.results31, go_sem, noLeaf, hlt2, y0, y1, y2, z0, z1, z2]) rfl ⟨rfl, ((HBW2.out.setCell (Nat.le_refl _) _).setCell (Nat.le_refl _) _).setCell (Nat.le_refl _) _⟩
    | some f2 =>
      obtain ⟨x, hx⟩ : ∃ x, x = f2 * 4096 + 1 := ⟨_, rfl⟩
      have e0 : word (p.dat g) (num pg 3) = x := by (rw [n3, hx, Tab.on_more _ _ _ (by omega)]; show (match T.nd 2 (part pg 2) with | some f => f * 4096 + 1 | none => 0) = _; rw [hch])
      rw [e0] at hcall
      obtain ⟨m1, m2, _⟩ := (HT.out.way pg).node 2 f2 (by omega) (by omega) hch
      have hx9 : x < 18446744073709551616 := by omega
      have hodd := and_odd hx9 (by omega)
      have hffe : bits .and .u64 (x : Int) 4094 = 0 := by (rw [hx]; exact and_ffe f2 (by omega))
      have hsh : ((x : Int) / 4096) = (f2 : Int) := by omega
      have HSH := Lib.hid hsh
      have HC := Lib.hid hcall
      have HCH := Lib.hid hch
      clear hcall hch e0 n3 hnd hx hsh
      go_wp2_with (first
        | (go_at_call 32; refine (HC.out).mono ?_; rintro e w2 ⟨rfl, hb2⟩)
        | fail)
      go_roundw
      case rel => exact ⟨2, f2, by first | rw [HSH.out] | rfl, by go_num, by omega, by omega, HCH.out, hbr.trans (hb2.mono hzr)⟩
      case measure => (simp [intOf])
    cases hch : T.nd 3 (part pg 3) with
    | none =>
      have e0 : word (p.dat g) (num pg 4) = 0 := by (rw [n3, Tab.on_more _ _ _ (by omega)]; show (match T.nd 3 (part pg 3) with | some f => f * 4096 + 1 | none => 0) = 0; rw [hch])
      rw [e0] at hcall
      have hno := HT.out.noLeaf (pg := pg) (lv := 3) (by omega) (by omega) hch
      have HC := Lib.hid hcall
      have hz := and_none
      clear hcall hch e0 n3 hnd
      rw [hno]
      clear hno
      go_upto_region 6 with (first
        | (go_at_call 32; refine (HC.out).mono ?_; rintro e w2 ⟨rfl, hb2⟩)
        | fail)
      have hz2 := hb2.size
      have hL2 := (hb2.block w.heap.size (by omega)).trans hL
      have hlt2 : w.heap.size < w2.heap.size := by omega
      have y0 : w2.cell? ⟨w.heap.size, 0, none⟩ = some (.int .i64 0) := one_block hL2 0
      have y1 : w2.cell? ⟨w.heap.size, 1, none⟩ = some (.int .u8 0) := one_block hL2 1
      have y2 : w2.cell? ⟨w.heap.size, 2, none⟩ = some (.bool false) := one_block hL2 2
      have z0 := one_free hL2 0
      have z1 := one_free hL2 1
      have z2 := one_free hL2 2
      have hbw2 : Below w.heap.size w w2 := HB0.out.trans ((hbr.mono hz0).trans (hb2.mono (by omega)))
      have HBW2 := Lib.hid hbw2
      clear hL2 hbw2
      go_wp2_with fail
      exact bodyPost_ret (v := .tuple #[.agg #[.int .i64 ((noLeaf).frame : Int), .int .u8 ((noLeaf).prot : Int), .bool (noLeaf).copy], .bool false]) (by simp [results, Tryd.results31, go_sem, noLeaf, hlt2, y0, y1, y2, z0, z1, z2]) rfl ⟨rfl, ((HBW2.out.setCell (Nat.le_refl _) _).setCell (Nat.le_refl _) _).setCell (Nat.le_refl _) _⟩
    | some f2 =>
      obtain ⟨x, hx⟩ : ∃ x, x = f2 * 4096 + 1 := ⟨_, rfl⟩
      have e0 : word (p.dat g) (num pg 4) = x := by (rw [n3, hx, Tab.on_more _ _ _ (by omega)]; show (match T.nd 3 (part pg 3) with | some f => f * 4096 + 1 | none => 0) = _; rw [hch])
      rw [e0] at hcall
      obtain ⟨m1, m2, _⟩ := (HT.out.way pg).node 3 f2 (by omega) (by omega) hch
      have hx9 : x < 18446744073709551616 := by omega
      have hodd := and_odd hx9 (by omega)
      have hffe : bits .and .u64 (x : Int) 4094 = 0 := by (rw [hx]; exact and_ffe f2 (by omega))
      have hsh : ((x : Int) / 4096) = (f2 : Int) := by omega
      have HSH := Lib.hid hsh
      have HC := Lib.hid hcall
      have HCH := Lib.hid hch
      clear hcall hch e0 n3 hnd hx hsh
      go_wp2_with (first
        | (go_at_call 32; refine (HC.out).mono ?_; rintro e w2 ⟨rfl, hb2⟩)
        | fail)
      go_roundw
      case rel => exact ⟨3, f2, by first | rw [HSH.out] | rfl, by go_num, by omega, by omega, HCH.out, hbr.trans (hb2.mono hzr)⟩
      case measure => (simp [intOf])
    cases hch : T.lf pg with
    | none =>
      have e0 : word (p.dat g) (num pg 1) = 0 := by rw [n3, Tab.on_one, hch]
      rw [e0] at hcall
      have HC := Lib.hid hcall
      have hz := and_none
      clear hcall hch e0 n3 hnd
      go_upto_region 6 with (first
        | (go_at_call 32; refine (HC.out).mono ?_; rintro e w2 ⟨rfl, hb2⟩)
        | fail)
      have hz2 := hb2.size
      have hL2 := (hb2.block w.heap.size (by omega)).trans hL
      have hlt2 : w.heap.size < w2.heap.size := by omega
      have y0 : w2.cell? ⟨w.heap.size, 0, none⟩ = some (.int .i64 0) := one_block hL2 0
      have y1 : w2.cell? ⟨w.heap.size, 1, none⟩ = some (.int .u8 0) := one_block hL2 1
      have y2 : w2.cell? ⟨w.heap.size, 2, none⟩ = some (.bool false) := one_block hL2 2
      have z0 := one_free hL2 0
      have z1 := one_free hL2 1
      have z2 := one_free hL2 2
      have hbw2 : Below w.heap.size w w2 := HB0.out.trans ((hbr.mono hz0).trans (hb2.mono (by omega)))
      have HBW2 := Lib.hid hbw2
      clear hL2 hbw2
      go_wp2_with fail
      exact bodyPost_ret (v := .tuple #[.agg #[.int .i64 ((noLeaf).frame : Int), .int .u8 ((noLeaf).prot : Int), .bool (noLeaf).copy], .bool false]) (by simp [results, Tryd.results31, go_sem, noLeaf, hlt2, y0, y1, y2, z0, z1, z2]) rfl ⟨rfl, ((HBW2.out.setCell (Nat.le_refl _) _).setCell (Nat.le_refl _) _).setCell (Nat.le_refl _) _⟩
    | some l =>
      obtain ⟨p7, pfn⟩ := (HT.out.way pg).prot l hch
      obtain ⟨x, hx⟩ : ∃ x, x = l.pack := ⟨_, rfl⟩
      have e0 : word (p.dat g) (num pg 1) = x := by rw [n3, hx, Tab.on_one, hch]
      rw [e0] at hcall
      have hxl : x < 4194304 := by rw [hx]; exact pack_lt l p7 (by omega)
      have hx9 : x < 18446744073709551616 := by omega
      have hodd := and_odd hx9 (by rw [hx]; exact pack_odd l)
      have hun : unpack x = l := by rw [hx]; exact unpack_pack l p7
      have u1 : ((x : Int) / 4096) = (l.frame : Int) := by rw [← hun]; simp [unpack]
      have u2 : bits .and .u64 ((x : Int) / 2) 7 % 256 = (l.prot : Int) := by rw [and_seven hx9, ← hun]; rfl
      have u3 : (bits .and .u64 (x : Int) 16 != 0) = l.copy := by rw [and_sixteen hx9, ← hun]; rfl
      have u4 : (bits .and .u64 ((x : Int) / 32) 127 == 0) = true := by rw [and_127 hx9, hx, pack_top l p7]; rfl
      have HC := Lib.hid hcall
      clear hcall hch e0 n3 hnd hx hun
      go_upto_region 6 with (first
        | (go_at_call 32; refine (HC.out).mono ?_; rintro e w2 ⟨rfl, hb2⟩)
        | fail)
      have hz2 := hb2.size
      have hL2 := (hb2.block w.heap.size (by omega)).trans hL
      have hlt2 : w.heap.size < w2.heap.size := by omega
      have y0 : w2.cell? ⟨w.heap.size, 0, none⟩ = some (.int .i64 0) := one_block hL2 0
      have y1 : w2.cell? ⟨w.heap.size, 1, none⟩ = some (.int .u8 0) := one_block hL2 1
      have y2 : w2.cell? ⟨w.heap.size, 2, none⟩ = some (.bool false) := one_block hL2 2
      have z0 := one_free hL2 0
      have z1 := one_free hL2 1
      have z2 := one_free hL2 2
      have hbw2 : Below w.heap.size w w2 := HB0.out.trans ((hbr.mono hz0).trans (hb2.mono (by omega)))
      have HBW2 := Lib.hid hbw2
      clear hL2 hbw2
      go_wp2_with fail
      exact bodyPost_ret (v := .tuple #[.agg #[.int .i64 ((l).frame : Int), .int .u8 ((l).prot : Int), .bool (l).copy], .bool true]) (by simp [results, Tryd.results31, go_sem, noLeaf, hlt2, y0, y1, y2, z0, z1, z2]) rfl ⟨rfl, ((HBW2.out.setCell (Nat.le_refl _) _).setCell (Nat.le_refl _) _).setCell (Nat.le_refl _) _⟩

end Go.Proofs.YtmkgdgfbdmjeeaaDoor
