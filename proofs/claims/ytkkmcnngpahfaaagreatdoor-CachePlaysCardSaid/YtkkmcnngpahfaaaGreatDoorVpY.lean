/- Paths as texts: the pieces between slashes, what may be a path, its parts. No program. Paths: the library's functions on texts; the one path "/a". Paths: Check and Parts at "/a". Files: parts of an entry. Paths at any text: pieces, Check, Parts. Paths at any text: Parts. Files, plain: an entry, a node, what New makes of entries. No program. Files: vfs.parts at any entry. Files: vfs.parts at any entry: its parts, or why it may not be. Files: at. Files: add of the one file. Files: New of the one file. The statements' file of three pages. Files: a directory's names in memory; a file system in memory; at. Files: what stays when a file system is added to. -/
import Derived.Laws.RangeAny
import Derived.Lib.DecodeN
import Derived.Lib.IndexBytes
import Derived.Lib.PathFns
import Derived.Lib.Hide
import Derived.Test.YtkkmcnngpahfaaaGreatDoorTwA
import Derived.Lib.Strings
import Derived.Lib.Slices
import Derived.Lib.SlicesS
import Derived.Lib.Walk
import Derived.Lib.Bytealg
import Derived.Lib.OthersKept
import Derived.Laws.BitsAllLaws
import Derived.WideMake
import Derived.Carry
import Derived.BigRegion
import Derived.Deep.RegionHeld3
import Derived.Test.YtkkmcnngpahfaaaGreatDoorTfZ
import Derived.OwnWalk
import Derived.Test.YtkkmcnngpahfaaaGreatDoorCaA

namespace Go.Proofs.YtkkmcnngpahfaaaGreatDoor
set_option linter.unusedSimpArgs false
set_option linter.unusedVariables false

/-! ### the pieces between slashes -/
def cutsN (s : ByteArray) : Nat → Nat → Nat → List ByteArray
  | 0, _, fr => [s.extract fr s.size]
  | k + 1, pos, fr => if pos < s.size then (if s.get! pos = 47 then s.extract fr pos :: cutsN s k (pos + 1) (pos + 1) else cutsN s k (pos + 1) fr) else [s.extract fr s.size]
/-- The pieces of s from byte fr on, of which the bytes up to pos have been looked at. -/
def cuts (s : ByteArray) (pos fr : Nat) : List ByteArray := cutsN s (s.size - pos) pos fr
def pieces (s : ByteArray) : List ByteArray := cuts s 0 0
theorem cuts_end {s : ByteArray} {pos fr : Nat} (h : ¬ pos < s.size) : cuts s pos fr = [s.extract fr s.size] := by
  unfold cuts
  rw [show s.size - pos = 0 by omega]
  rfl
theorem cuts_slash {s : ByteArray} {pos fr : Nat} (h : pos < s.size) (hs : s.get! pos = 47) : cuts s pos fr = s.extract fr pos :: cuts s (pos + 1) (pos + 1) := by
  unfold cuts
  rw [show s.size - pos = (s.size - (pos + 1)) + 1 by omega, cutsN, if_pos h, if_pos hs]
theorem cuts_other {s : ByteArray} {pos fr : Nat} (h : pos < s.size) (hs : s.get! pos ≠ 47) : cuts s pos fr = cuts s (pos + 1) fr := by
  unfold cuts
  rw [show s.size - pos = (s.size - (pos + 1)) + 1 by omega, cutsN, if_pos h, if_neg hs]
theorem cuts_skip {s : ByteArray} {pos fr : Nat} (d : Nat) (h : pos + d ≤ s.size) (hs : ∀ i, pos ≤ i → i < pos + d → s.get! i ≠ 47) : cuts s pos fr = cuts s (pos + d) fr := by
  induction d with
  | zero => rfl
  | succ d ih =>
    rw [ih (by omega) fun i h1 h2 => hs i h1 (by omega), cuts_other (by omega) (hs _ (by omega) (by omega))]
    rfl
theorem cuts_length (s : ByteArray) (k : Nat) : ∀ pos fr, s.size - pos ≤ k → (cuts s pos fr).length ≤ s.size - pos + 1 := by
  induction k with
  | zero => intro pos fr h; rw [cuts_end (by omega)]; simp
  | succ k ih =>
    intro pos fr h
    by_cases hp : pos < s.size
    · by_cases hs : s.get! pos = 47
      · rw [cuts_slash hp hs, List.length_cons]
        have := ih (pos + 1) (pos + 1) (by omega)
        omega
      · rw [cuts_other hp hs]
        have := ih (pos + 1) fr (by omega)
        omega
    · rw [cuts_end hp]; simp
theorem pieces_length (s : ByteArray) : (pieces s).length ≤ s.size + 1 := cuts_length s s.size 0 0 (by omega)
theorem cuts_size (s : ByteArray) (k : Nat) : ∀ pos fr, s.size - pos ≤ k → ∀ x ∈ cuts s pos fr, x.size ≤ s.size := by
  have hx : ∀ a b, (s.extract a b).size ≤ s.size := fun a b => by rw [ByteArray.size_extract]; omega
  induction k with
  | zero => intro pos fr h x hm; rw [cuts_end (by omega)] at hm; simp at hm; subst hm; exact hx _ _
  | succ k ih =>
    intro pos fr h x hm
    by_cases hp : pos < s.size
    · by_cases hs : s.get! pos = 47
      · rw [cuts_slash hp hs] at hm
        rcases List.mem_cons.1 hm with e | e
        · subst e; exact hx _ _
        · exact ih _ _ (by omega) x e
      · rw [cuts_other hp hs] at hm
        exact ih _ _ (by omega) x hm
    · rw [cuts_end hp] at hm; simp at hm; subst hm; exact hx _ _
theorem pieces_size {s x : ByteArray} (h : x ∈ pieces s) : x.size ≤ s.size := cuts_size s s.size 0 0 (by omega) x h

/-! ### what range gives -/
theorem get!_nat (s : ByteArray) (i : Nat) : s.get! i = 47 ↔ (s.get! i).toNat = 47 := by
  constructor
  · intro h; rw [h]; rfl
  · intro h; exact UInt8.toNat_inj.1 h
/-- A rune that range gives: how far it goes, and whether it is a slash. -/
theorem rune_step (s : ByteArray) (pos : Nat) (h : pos < s.size) :
    1 ≤ (Utf8.decode s pos).2 ∧ pos + (Utf8.decode s pos).2 ≤ s.size ∧ ((Utf8.decode s pos).1 = 47 → s.get! pos = 47 ∧ (Utf8.decode s pos).2 = 1) ∧
      ((Utf8.decode s pos).1 ≠ 47 → ∀ i, pos ≤ i → i < pos + (Utf8.decode s pos).2 → s.get! i ≠ 47) := by
  have key : ∀ n b0 b1 b2 b3 : Nat, 0 < n → b0 < 256 → 1 ≤ (Lib.decodeN n b0 b1 b2 b3).2 ∧ (Lib.decodeN n b0 b1 b2 b3).2 ≤ n ∧ ((Lib.decodeN n b0 b1 b2 b3).1 = 47 → b0 = 47 ∧ (Lib.decodeN n b0 b1 b2 b3).2 = 1) ∧
      ((Lib.decodeN n b0 b1 b2 b3).1 ≠ 47 → b0 ≠ 47 ∧ (2 ≤ (Lib.decodeN n b0 b1 b2 b3).2 → b1 ≠ 47) ∧ (3 ≤ (Lib.decodeN n b0 b1 b2 b3).2 → b2 ≠ 47) ∧ (4 ≤ (Lib.decodeN n b0 b1 b2 b3).2 → b3 ≠ 47) ∧ (Lib.decodeN n b0 b1 b2 b3).2 ≤ 4) := by
    intro n b0 b1 b2 b3 hn h0
    unfold Lib.decodeN
    repeat' split
    all_goals (refine ⟨?_, ?_, ?_, ?_⟩ <;> first | omega | (intro h; omega) | (intro h; refine ⟨?_, ?_, ?_, ?_, ?_⟩ <;> (try intro h') <;> simp only [] at * <;> omega))
  obtain ⟨k1, k2, k3, k4⟩ := key (s.size - pos) (s.get! pos).toNat (s.get! (pos + 1)).toNat (s.get! (pos + 2)).toNat (s.get! (pos + 3)).toNat (by omega) (s.get! pos).toNat_lt
  rw [Lib.decode_at]
  refine ⟨k1, by omega, fun e => ⟨(get!_nat s pos).2 (k3 e).1, (k3 e).2⟩, fun e i h1 h2 => ?_⟩
  obtain ⟨a0, a1, a2, a3, a4⟩ := k4 e
  intro hc
  have hc' := (get!_nat s i).1 hc
  rcases (by omega : i = pos ∨ i = pos + 1 ∨ i = pos + 2 ∨ i = pos + 3) with rfl | rfl | rfl | rfl
  · exact a0 hc'
  · exact a1 (by omega) hc'
  · exact a2 (by omega) hc'
  · exact a3 (by omega) hc'

/-! ### Check and Parts -/
def longP (l : List ByteArray) : Bool := l.any fun x => decide (32 < x.size)
def chk (s : ByteArray) : Int := if s.size = 0 then 3 else if 0 ≤ Lib.indexByte s.data.toList 0 then 1 else if 200 < s.size then 11 else if longP (pieces s) = true then 11 else 0
theorem chk_zero {s : ByteArray} (h : chk s = 0) : 0 < s.size ∧ s.size ≤ 200 ∧ ¬ 0 ≤ Lib.indexByte s.data.toList 0 ∧ longP (pieces s) = false := by
  unfold chk at h
  split at h
  · cases h
  split at h
  · cases h
  split at h
  · cases h
  split at h
  · cases h
  next h1 h2 h3 h4 => exact ⟨by omega, by omega, h2, by simpa using h4⟩
def isPart (x : ByteArray) : Bool := !(x.data == #[] || x.data == #[46])
def partsOf (s : ByteArray) : List ByteArray := (pieces s).filter isPart
theorem partsOf_length (s : ByteArray) : (partsOf s).length ≤ s.size + 1 := Nat.le_trans (List.length_filter_le _ _) (pieces_length s)

end Go.Proofs.YtkkmcnngpahfaaaGreatDoor

namespace Go.Proofs.YtkkmcnngpahfaaaGreatDoor
open Go.RowKit
set_option linter.unusedSimpArgs false
set_option linter.unusedVariables false

set_option maxHeartbeats 1000000 in
set_option maxRecDepth 100000 in
theorem lib_byte (s : ByteArray) (c : Int) (w : World) : Calls Tryz.prog 172 #[.string s, .int .u8 c] w fun e w' => e = .returned (.int .i64 (Lib.indexByte s.data.toList c.toNat.toUInt8)) ∧ w' = w := by
  go_enter Tryz.func172, Tryz.ntmps172
  go_wp2
  rw [run_callFunc_extern Tryz.func176 (by kernel_rfl) (by kernel_rfl) (by kernel_rfl) (e := Extern.BytealgIndexByte.indexByte) (by kernel_rfl), Lib.run_indexByteString]
  simp only [Result.andThen]
  rw [Oper.upon_value]
  go_wp2
  go_ret
  exact ⟨rfl, rfl⟩

set_option maxHeartbeats 2000000 in
set_option maxRecDepth 100000 in
theorem lib_index1 (s : ByteArray) (c : UInt8) (w : World) : Calls Tryz.prog 171 #[.string s, .string ⟨#[c]⟩] w fun e w' => e = .returned (.int .i64 (Lib.indexByte s.data.toList c)) ∧ w' = w := by
  go_enter Tryz.func171, Tryz.ntmps171
  go_wp2_with (go_at_call 172; refine (lib_byte _ _ _).mono ?_; rintro e w' ⟨rfl, rfl⟩)
  · have h : ([c] == s.toList) = true := by assumption
    go_ret
    refine ⟨?_, rfl⟩
    have e : s.data.toList = [c] := by rw [← Lib.toList_data]; exact (beq_iff_eq.1 h).symm
    rw [e]
    simp [Lib.indexByte]
  · go_ret
    exact ⟨rfl, rfl⟩
theorem lib_sindex1 (s : ByteArray) (c : UInt8) (w : World) : Calls Tryz.prog 168 #[.string s, .string ⟨#[c]⟩] w fun e w' => e = .returned (.int .i64 (Lib.indexByte s.data.toList c)) ∧ w' = w := by
  go_enter Tryz.func168, Tryz.ntmps168
  go_wp2_with (go_at_call 171; refine (lib_index1 _ _ _).mono ?_; rintro e w' ⟨rfl, rfl⟩)
  go_ret
  exact ⟨rfl, rfl⟩
theorem lib_contains1 (s : ByteArray) (c : UInt8) (w : World) : Calls Tryz.prog 157 #[.string s, .string ⟨#[c]⟩] w fun e w' => e = .returned (.bool (decide (0 ≤ Lib.indexByte s.data.toList c))) ∧ w' = w := by
  go_enter Tryz.func157, Tryz.ntmps157
  go_wp2_with (go_at_call 168; refine (lib_sindex1 _ _ _).mono ?_; rintro e w' ⟨rfl, rfl⟩)
  go_ret
  exact ⟨rfl, rfl⟩
set_option maxHeartbeats 1000000 in
theorem lib_prefix (s p : ByteArray) (w : World) : Calls Tryz.prog 154 #[.string s, .string p] w fun e w' => e = .returned (.bool (Lib.hasPrefix s.data.toList p.data.toList)) ∧ w' = w := by
  rw [← Lib.hasPrefix_of_take, ← Lib.size_eq, ← Lib.size_eq]
  go_enter Tryz.func154, Tryz.ntmps154
  go_wp2
  · rename_i h
    go_ret
    refine ⟨?_, rfl⟩
    show Ending.returned (Value.bool ((s.extract 0 p.size).toList == p.toList)) = _
    rw [Lib.extract_toList, Lib.toList_data]
    simp [h]
  · rename_i h
    go_ret
    refine ⟨?_, rfl⟩
    show Ending.returned (Value.bool false) = _
    simp [h]
set_option maxHeartbeats 1000000 in
theorem lib_suffix (s p : ByteArray) (w : World) (hs : s.size ≤ 9223372036854775807) : Calls Tryz.prog 155 #[.string s, .string p] w fun e w' => e = .returned (.bool (Lib.hasSuffix s.data.toList p.data.toList)) ∧ w' = w := by
  rw [← Lib.hasSuffix_raw]
  have hlo : p.size ≤ s.size → ((s.size : Int) - (p.size : Int) + 9223372036854775808) % 18446744073709551616 - 9223372036854775808 = ((s.size - p.size : Nat) : Int) := fun _ => by omega
  go_enter Tryz.func155, Tryz.ntmps155
  go_wp2
  · have h : p.size ≤ s.size := by assumption
    go_ret
    refine ⟨?_, rfl⟩
    show Ending.returned (Value.bool ((s.extract (s.size - p.size) s.size).toList == p.toList)) = _
    simp [h]
  · have h : ¬ p.size ≤ s.size := by assumption
    go_ret
    refine ⟨?_, rfl⟩
    show Ending.returned (Value.bool false) = _
    simp [h]
theorem tail_any (s : ByteArray) (w : World) (hs : s.size ≤ 9223372036854775807) : Calls Tryz.prog 137 #[.string s] w fun e w' => e = .returned (.bool (Lib.hasSuffix s.data.toList [47])) ∧ w' = w := by
  go_enter Tryz.func137, Tryz.ntmps137
  go_wp2_with (go_at_call 155; refine (lib_suffix _ _ _ hs).mono ?_; rintro e w' ⟨rfl, rfl⟩)
  go_ret
  exact ⟨rfl, rfl⟩

def pathA : ByteArray := ⟨#[47, 97]⟩
theorem pathA_size : pathA.size = 2 := rfl

theorem next_a0 {s : ByteArray} (hs : s = ⟨#[47, 97]⟩) (w : World) (k : Nat) (ty : TypeId) (h : w.heap[k]? = some (.stringIter s 0)) :
    (Instr.next (.pointer (some ⟨k, 0, none⟩)) true ty).run Tryz.prog w = .ok (.tuple #[.bool true, .int .i64 0, .int .i32 47]) (w.iterAt k s 1) := by
  subst hs
  exact Go.Lib.run_next_ascii_at w k _ 0 ty h (by decide) (by decide)
theorem next_a1 {s : ByteArray} (hs : s = ⟨#[47, 97]⟩) (w : World) (k : Nat) (ty : TypeId) (h : w.heap[k]? = some (.stringIter s 1)) :
    (Instr.next (.pointer (some ⟨k, 0, none⟩)) true ty).run Tryz.prog w = .ok (.tuple #[.bool true, .int .i64 1, .int .i32 97]) (w.iterAt k s 2) := by
  subst hs
  exact Go.Lib.run_next_ascii_at w k _ 1 ty h (by decide) (by decide)

set_option maxHeartbeats 2000000 in
set_option maxRecDepth 100000 in
theorem pieces_check (bo : Nat) (w : World) (Q : World → Prop)
    (h1 : ∀ w1, Below w.heap.size w w1 → Calls Tryz.prog 158 (#[.string ByteArray.empty] ++ #[.pointer (some ⟨bo, 0, none⟩)]) w1 fun e w2 => e = .returned (.bool true) ∧ w2 = w1)
    (h2 : ∀ w1, Below w.heap.size w w1 → Calls Tryz.prog 158 (#[.string ⟨#[97]⟩] ++ #[.pointer (some ⟨bo, 0, none⟩)]) w1 fun e w2 => e = .returned (.bool true) ∧ Q w2) :
    Calls Tryz.prog 152 #[.string ⟨#[47, 97]⟩, .func (.func 158) #[] #[.pointer (some ⟨bo, 0, none⟩)]] w fun e w' => e = .returned (.tuple #[]) ∧ Q w' := by
  obtain ⟨s, hs⟩ : ∃ s : ByteArray, s = ⟨#[47, 97]⟩ := ⟨_, rfl⟩
  have hsz : s.size = 2 := by rw [hs]; rfl
  have x00 : s.extract 0 0 = ⟨#[]⟩ := by rw [hs]; rfl
  have x12 : s.extract 1 2 = ⟨#[97]⟩ := by rw [hs]; rfl
  rw [← hs]
  have H1 := Lib.hid h1
  have H2 := Lib.hid h2
  have HS := Lib.hid hs
  have X0 := Lib.hid x00
  have X1 := Lib.hid x12
  clear h1 h2 hs x00 x12
  go_enter Tryz.func152, Tryz.ntmps152
  go_wp2_with fail
  go_loopw [4] (fun i wr => ∃ pos : Nat, pos ≤ 2 ∧ i = .int .i64 (if pos = 0 then 0 else 1) ∧ wr.heap[w.heap.size]? = some (.stringIter s pos) ∧ Below w.heap.size w wr) (fun _ wr => 2 - wr.iterPos w.heap.size)
  case atStart => exact ⟨0, by omega, rfl, World.iter_heap w s 0, (Below.refl _ _).alloc (Nat.le_refl _) _⟩
  case round =>
    obtain ⟨pos, hp, rfl, hit, hbe⟩ := hrel
    have hpos := iterPos_of hit
    have HIT := Lib.hid hit
    clear hit
    have hlt := (Array.getElem?_eq_some_iff.1 HIT.out).1
    rcases (by omega : pos = 0 ∨ pos = 1 ∨ pos = 2) with rfl | rfl | rfl
    · have hnx := fun ty => next_a0 HS.out wr w.heap.size ty HIT.out
      have hw1 : Below w.heap.size w (wr.iterAt w.heap.size s 1) := Go.Lib.below_iterAt hbe (Nat.le_refl _) s 1
      have hit1 := Go.Lib.iterAt_heap wr w.heap.size s 0 1 HIT.out
      obtain ⟨w1, hw⟩ : ∃ w1, w1 = wr.iterAt w.heap.size s 1 := ⟨_, rfl⟩
      rw [← hw] at hw1 hit1 hnx
      have HI1 := Lib.hid hit1
      have hp1 := iterPos_of hit1
      clear hit1 hw
      go_wp2_with (first
        | (go_at_call 158; refine (H1.out w1 hw1).mono ?_; rintro e w2 ⟨rfl, rfl⟩)
        | fail)
      go_roundw
      case rel => exact ⟨1, by omega, rfl, HI1.out, hw1⟩
      case measure => (simp [hp1, hpos])
    · have hnx := fun ty => next_a1 HS.out wr w.heap.size ty HIT.out
      have hw1 : Below w.heap.size w (wr.iterAt w.heap.size s 2) := Go.Lib.below_iterAt hbe (Nat.le_refl _) s 2
      have hit1 := Go.Lib.iterAt_heap wr w.heap.size s 1 2 HIT.out
      obtain ⟨w1, hw⟩ : ∃ w1, w1 = wr.iterAt w.heap.size s 2 := ⟨_, rfl⟩
      rw [← hw] at hw1 hit1 hnx
      have HI1 := Lib.hid hit1
      have hp1 := iterPos_of hit1
      clear hit1 hw
      go_wp2_with fail
      go_roundw
      case rel => exact ⟨2, by omega, rfl, HI1.out, hw1⟩
      case measure => (simp [hp1, hpos])
    · have hnx := fun ty => Go.Lib.run_next_end_at (P := Tryz.prog) wr w.heap.size s 2 ty HIT.out (by omega)
      go_wp2_with (first
        | (go_at_call 158; go_loud (rw [X1.out]); refine (H2.out wr hbe).mono ?_; rintro e w2 ⟨rfl, hq⟩)
        | fail)
      go_end0
      exact ⟨rfl, hq⟩

end Go.Proofs.YtkkmcnngpahfaaaGreatDoor

namespace Go.Proofs.YtkkmcnngpahfaaaGreatDoor
open Go.RowKit Go.Sort
set_option linter.unusedSimpArgs false
set_option linter.unusedVariables false

set_option maxHeartbeats 2000000 in
set_option maxRecDepth 100000 in
theorem pieces_parts (bo : Nat) (w : World) (Q : World → Prop)
    (h1 : ∀ w1, Below w.heap.size w w1 → Calls Tryz.prog 153 (#[.string ByteArray.empty] ++ #[.pointer (some ⟨bo, 0, none⟩)]) w1 fun e w2 => e = .returned (.bool true) ∧ w2 = w1)
    (h2 : ∀ w1, Below w.heap.size w w1 → Calls Tryz.prog 153 (#[.string ⟨#[97]⟩] ++ #[.pointer (some ⟨bo, 0, none⟩)]) w1 fun e w2 => e = .returned (.bool true) ∧ Q w2) :
    Calls Tryz.prog 152 #[.string ⟨#[47, 97]⟩, .func (.func 153) #[] #[.pointer (some ⟨bo, 0, none⟩)]] w fun e w' => e = .returned (.tuple #[]) ∧ Q w' := by
  obtain ⟨s, hs⟩ : ∃ s : ByteArray, s = ⟨#[47, 97]⟩ := ⟨_, rfl⟩
  have hsz : s.size = 2 := by rw [hs]; rfl
  have x00 : s.extract 0 0 = ⟨#[]⟩ := by rw [hs]; rfl
  have x12 : s.extract 1 2 = ⟨#[97]⟩ := by rw [hs]; rfl
  rw [← hs]
  have H1 := Lib.hid h1
  have H2 := Lib.hid h2
  have HS := Lib.hid hs
  have X0 := Lib.hid x00
  have X1 := Lib.hid x12
  clear h1 h2 hs x00 x12
  go_enter Tryz.func152, Tryz.ntmps152
  go_wp2_with fail
  go_loopw [4] (fun i wr => ∃ pos : Nat, pos ≤ 2 ∧ i = .int .i64 (if pos = 0 then 0 else 1) ∧ wr.heap[w.heap.size]? = some (.stringIter s pos) ∧ Below w.heap.size w wr) (fun _ wr => 2 - wr.iterPos w.heap.size)
  case atStart => exact ⟨0, by omega, rfl, World.iter_heap w s 0, (Below.refl _ _).alloc (Nat.le_refl _) _⟩
  case round =>
    obtain ⟨pos, hp, rfl, hit, hbe⟩ := hrel
    have hpos := iterPos_of hit
    have HIT := Lib.hid hit
    clear hit
    have hlt := (Array.getElem?_eq_some_iff.1 HIT.out).1
    rcases (by omega : pos = 0 ∨ pos = 1 ∨ pos = 2) with rfl | rfl | rfl
    · have hnx := fun ty => next_a0 HS.out wr w.heap.size ty HIT.out
      have hw1 : Below w.heap.size w (wr.iterAt w.heap.size s 1) := Go.Lib.below_iterAt hbe (Nat.le_refl _) s 1
      have hit1 := Go.Lib.iterAt_heap wr w.heap.size s 0 1 HIT.out
      obtain ⟨w1, hw⟩ : ∃ w1, w1 = wr.iterAt w.heap.size s 1 := ⟨_, rfl⟩
      rw [← hw] at hw1 hit1 hnx
      have HI1 := Lib.hid hit1
      have hp1 := iterPos_of hit1
      clear hit1 hw
      go_wp2_with (first
        | (go_at_call 153; refine (H1.out w1 hw1).mono ?_; rintro e w2 ⟨rfl, rfl⟩)
        | fail)
      go_roundw
      case rel => exact ⟨1, by omega, rfl, HI1.out, hw1⟩
      case measure => (simp [hp1, hpos])
    · have hnx := fun ty => next_a1 HS.out wr w.heap.size ty HIT.out
      have hw1 : Below w.heap.size w (wr.iterAt w.heap.size s 2) := Go.Lib.below_iterAt hbe (Nat.le_refl _) s 2
      have hit1 := Go.Lib.iterAt_heap wr w.heap.size s 1 2 HIT.out
      obtain ⟨w1, hw⟩ : ∃ w1, w1 = wr.iterAt w.heap.size s 2 := ⟨_, rfl⟩
      rw [← hw] at hw1 hit1 hnx
      have HI1 := Lib.hid hit1
      have hp1 := iterPos_of hit1
      clear hit1 hw
      go_wp2_with fail
      go_roundw
      case rel => exact ⟨2, by omega, rfl, HI1.out, hw1⟩
      case measure => (simp [hp1, hpos])
    · have hnx := fun ty => Go.Lib.run_next_end_at (P := Tryz.prog) wr w.heap.size s 2 ty HIT.out (by omega)
      go_wp2_with (first
        | (go_at_call 153; go_loud (rw [X1.out]); refine (H2.out wr hbe).mono ?_; rintro e w2 ⟨rfl, hq⟩)
        | fail)
      go_end0
      exact ⟨rfl, hq⟩

def OwnS (w : World) (base : Nat) (A : Option Addr) (cap : Nat) (l : List ByteArray) : Prop := w.ownsRow base 9 1 (.slice A l.length cap) l.length (l.map Value.string)
theorem OwnS.nil (w : World) (base : Nat) : OwnS w base none 0 [] := World.ownsRow_nil w base _ 1
theorem OwnS.elem {w : World} {base g : Nat} {cap : Nat} {l : List ByteArray} (h : OwnS w base (some ⟨g, 0, none⟩) cap l) {j : Nat} {t : ByteArray} (hp : l[j]? = some t) : w.cell? ⟨g, j, none⟩ = some (.string t) := by
  have hk : j < l.length := (List.getElem?_eq_some_iff.1 hp).1
  rw [World.ownsRow.cellAt h j (by omega), List.getElem?_map, hp]
  rfl
theorem OwnS.same {w w' : World} {base : Nat} {A : Option Addr} {cap : Nat} {l : List ByteArray} (h : OwnS w base A cap l) (hb : ∀ g, A = some ⟨g, 0, none⟩ → w'.heap[g]? = w.heap[g]?) : OwnS w' base A cap l := by
  refine ⟨h.1, ?_⟩
  rcases h.2 with h2 | ⟨g, cap', cur, h1, h2, h3, h4⟩
  · exact .inl h2
  · injection h1 with e1 e2 e3
    exact .inr ⟨g, cap', cur, by rw [e1, e2, e3], h2, (hb g e1).trans h3, h4⟩
theorem set_one {w : World} {b : Nat} {x y : Value} {t : TypeId} (h : w.heap[b]? = some (.cells #[x] t (0, 0))) : (w.setCell ⟨b, 0, none⟩ y).heap[b]? = some (.cells #[y] t (0, 0)) := by
  have h1 := Joins.block_setCell (i := 0) h y
  simpa using h1
theorem cell_same {w w' : World} {b : Nat} (h : w'.heap[b]? = w.heap[b]?) (i : Nat) : w'.cell? ⟨b, i, none⟩ = w.cell? ⟨b, i, none⟩ := by simp [World.cell?, h]
theorem str_info : (Tryz.prog.info? 9).map (fun i => (i.zero, i.size, i.bytes)) = some (some (.string ByteArray.empty), 1, 16) := by kernel_rfl
theorem app_str {w : World} {ops : Array Oper} {rest : List Oper} {o : Oper} {a : Act} {Q : Exit → Act → World → Prop} (hgd : o.guard = none) (s x : Operand)
    (ho : o.op = .call { callee := .builtin .append, args := #[s, x], argTypes := #[163, 163] })
    (base : Nat) (A : Option Addr) (cap : Nat) (l : List ByteArray) (hs : a.eval s = .slice A l.length cap) (hown : OwnS w base A cap l)
    (t : ByteArray) (b c : Nat) (hx : a.eval x = .slice (some ⟨b, 0, none⟩) 1 c) (hb : w.heap[b]? = some (.cells #[.string t] 9 (0, 0)))
    (hfew : l.length < 1000000) (hbase : base ≤ w.heap.size)
    (h : ∀ g cap' w', OwnS w' base (some ⟨g, 0, none⟩) cap' (l ++ [t]) → w.grownBy w' (A.map (·.block)) → (A.map (·.block) = some g ∨ g = w.heap.size) → g < w'.heap.size → wpList Tryz.prog ops Q rest (a.put o.dst (.slice (some ⟨g, 0, none⟩) (l.length + 1) cap')) w') :
    wpList Tryz.prog ops Q (o :: rest) a w := by
  obtain ⟨i0, hi0, hz0, hz1, hz2⟩ := info_parts str_info
  refine wpList_append_lies w hgd s x 163 ho base 9 i0 _ 1 16 Tryz.underlying163 hi0 hz0 hz1 hz2 rfl (by omega) _ l.length (l.map Value.string) hs hown ⟨b, 0, none⟩ 1 c [.string t] hx rfl (World.news_of_block (cs := #[.string t]) hb)
    (by simp [Value.oneCell']) (by omega) (by unfold maxLen; omega) (by omega) hbase w.heap.size rfl ?_
  intro g cap' w' ho' hg hat hlt
  refine h g cap' w' ?_ ?_ ?_ hlt
  · unfold OwnS
    rw [List.map_append, List.length_append]
    exact ho'
  · cases A <;> simpa [Value.ownBlock] using hg
  · cases A <;> simpa [Value.ownBlock] using hat

theorem check1_any (bo : Nat) (x : ByteArray) (w : World) (hx : x.size ≤ 32) (hc : w.cell? ⟨bo, 0, none⟩ = some (.int .i64 0)) : Calls Tryz.prog 158 (#[.string x] ++ #[.pointer (some ⟨bo, 0, none⟩)]) w fun e w' => e = .returned (.bool true) ∧ w' = w := by
  go_enter Tryz.func158, Tryz.ntmps158
  go_wp2_with fail
  go_ret
  exact ⟨rfl, rfl⟩
theorem parts1_none (bo : Nat) (w : World) : Calls Tryz.prog 153 (#[.string ByteArray.empty] ++ #[.pointer (some ⟨bo, 0, none⟩)]) w fun e w' => e = .returned (.bool true) ∧ w' = w := by
  go_enter Tryz.func153, Tryz.ntmps153
  go_wp2_with fail
  go_ret
  exact ⟨rfl, rfl⟩
/-- One part lies in new memory, and the captured variable leads to it. -/
def OnePart (bo base : Nat) (w w' : World) : Prop := ∃ g cap, w'.cell? ⟨bo, 0, none⟩ = some (.slice (some ⟨g, 0, none⟩) 1 cap) ∧ w'.heap[bo]? = some (.cells #[.slice (some ⟨g, 0, none⟩) 1 cap] 163 (0, 0)) ∧ OwnS w' base (some ⟨g, 0, none⟩) cap [⟨#[97]⟩] ∧ Mod (fun b => b = bo) w w' ∧ base ≤ g ∧ g < w'.heap.size ∧ g ≠ bo
set_option maxHeartbeats 1000000 in
theorem parts1_a (bo base : Nat) (w : World) (hB : w.heap[bo]? = some (.cells #[.slice none 0 0] 163 (0, 0))) (hbase : base ≤ bo) : Calls Tryz.prog 153 (#[.string ⟨#[97]⟩] ++ #[.pointer (some ⟨bo, 0, none⟩)]) w fun e w' => e = .returned (.bool true) ∧ OnePart bo base w w' := by
  have hbw : bo < w.heap.size := (Array.getElem?_eq_some_iff.1 hB).1
  have c0 : w.cell? ⟨bo, 0, none⟩ = some (.slice none 0 0) := one_block hB 0
  have f0 : w.frozen? ⟨bo, 0, none⟩ = false := one_free hB 0
  have HB := Lib.hid hB
  clear hB
  go_enter Tryz.func153, Tryz.ntmps153
  go_wp2_with (first
    | (at_builtin; refine app_str rfl (.tmp 10) (.tmp 12) rfl base none 0 [] rfl (OwnS.nil _ _) ⟨#[97]⟩ w.heap.size 1 rfl (heap_alloc_new _ _) (by simp) (by simp; omega) ?_; intro g cap' w1 ho hg hat hlt; have hB1 : w1.heap[bo]? = some (.cells #[.slice none 0 0] 163 (0, 0)) := (hg.block bo (by simp; omega) (by simp)).trans ((Below.heap_alloc _ _ _ hbw).trans HB.out); have c1 := one_block hB1 0; have f1 := one_free hB1 0; have HB1 := Lib.hid hB1; have HO := Lib.hid ho; have HG := Lib.hid hg; have HAT := Lib.hid hat; clear hB1 ho hg hat)
    | fail)
  go_ret
  have hg := HG.out
  have hat := HAT.out
  have hz := hg.size
  have e1 : g = w.heap.size + 1 := by simpa using hat
  have hm : Mod (fun b => b = bo) w w1 := (Mod.of ((Below.refl w.heap.size w).alloc (Nat.le_refl _) _)).trans (Out.refl _ _) ⟨hg.os, hg.tape, hg.output, hg.size, fun b hb _ => hg.block b hb (by simp)⟩
  have hset := set_one HB1.out (y := .slice (some ⟨g, 0, none⟩) 1 cap')
  refine ⟨rfl, g, cap', one_block hset 0, hset, ?_, hm.trans (Out.refl _ _) (mod_set (S := fun b => b = bo) rfl 0 _), by omega, by simpa using hlt, by omega⟩
  exact OwnS.same HO.out fun g' e' => by
    injection e' with e'
    injection e' with e'
    exact (mod_set (S := fun b => b = bo) (w := w1) rfl 0 _).block g' (e' ▸ hlt) (by omega)

theorem clear_a : Lib.indexByte (ByteArray.mk #[47, 97]).data.toList 0 = -1 := by decide
theorem checkA_any (w : World) : Calls Tryz.prog 139 #[.string ⟨#[47, 97]⟩] w fun e w' => e = .returned (.int .i64 0) ∧ Below w.heap.size w w' := by
  obtain ⟨s, hs⟩ : ∃ s : ByteArray, s = ⟨#[47, 97]⟩ := ⟨_, rfl⟩
  have hp := pieces_check w.heap.size (w.alloc (.cells #[.int .i64 0] 32)) (fun w' => w'.cell? ⟨w.heap.size, 0, none⟩ = some (.int .i64 0) ∧ Below w.heap.size w w')
    (fun w1 hb => check1_any _ _ w1 (by decide) ((hb.cell (by simp)).trans (one_block (heap_alloc_new w _) 0)))
    (fun w1 hb => (check1_any _ _ w1 (by decide) ((hb.cell (by simp)).trans (one_block (heap_alloc_new w _) 0))).mono fun e w' ⟨h1, h2⟩ => ⟨h1, by
      rw [h2]
      exact ⟨(hb.cell (by simp)).trans (one_block (heap_alloc_new w _) 0), ((Below.refl w.heap.size w).alloc (Nat.le_refl _) _).trans (hb.mono (by simp))⟩⟩)
  have hq := lib_contains1 ⟨#[47, 97]⟩ 0 w
  rw [clear_a] at hq
  rw [← hs] at hp hq ⊢
  have hsz : s.size = 2 := by rw [hs]; rfl
  have hne : (s.toList == []) = false := by rw [Lib.toList_data, hs]; decide
  have HP := Lib.hid hp
  have HQ := Lib.hid hq
  have HS := Lib.hid hs
  clear hp hq hs
  go_enter Tryz.func139, Tryz.ntmps139
  go_wp2_with (first
    | (go_at_call 157; refine (HQ.out).mono ?_; rintro e w2 ⟨rfl, rfl⟩)
    | (go_at_call 152; refine (HP.out).mono ?_; rintro e w2 ⟨rfl, hc, hb⟩))
  go_ret
  exact ⟨rfl, hb⟩

theorem results_cell_tmp2 {fn : Func} {p u v : Tmp} {ty : TypeId} (h : fn.results = #[.cell p ty, .tmp u, .tmp v]) (tmps : Array Value) (P : Program) (w : World) :
    (results fn tmps).run P w =
      ((asAddr (tmps.getD p undef)).run P w).andThen fun a w₁ => ((loadVar ty a).run P w₁).andThen fun x w₂ => .ok (.tuple #[x, tmps.getD u undef, tmps.getD v undef]) w₂ := by
  simp only [results, h]
  simp [Sem.run_bind, Result.andThen]
theorem results_parts {tmps : Array Value} {w : World} {bo g cap : Nat} (h2 : tmps.getD 2 undef = .pointer (some ⟨bo, 0, none⟩)) (h3 : tmps.getD 3 undef = .bool true) (h4 : tmps.getD 4 undef = .int .i64 0) (hc : w.cell? ⟨bo, 0, none⟩ = some (.slice (some ⟨g, 0, none⟩) 1 cap)) :
    (results Tryz.f136 tmps).run Tryz.prog w = .ok (.tuple #[.slice (some ⟨g, 0, none⟩) 1 cap, .bool true, .int .i64 0]) w := by
  rw [results_cell_tmp2 rfl, h2, h3, h4]
  go_simp
def PartsPost (w : World) (e : Ending) (w' : World) : Prop := ∃ g cap, e = .returned (.tuple #[.slice (some ⟨g, 0, none⟩) 1 cap, .bool true, .int .i64 0]) ∧ w'.cell? ⟨g, 0, none⟩ = some (.string ⟨#[97]⟩) ∧ w.heap.size ≤ g ∧ g < w'.heap.size ∧ Below w.heap.size w w'
set_option maxHeartbeats 1000000 in
theorem partsA_any (w : World) : Calls Tryz.prog 136 #[.string ⟨#[47, 97]⟩] w (PartsPost w) := by
  obtain ⟨s, hs⟩ : ∃ s : ByteArray, s = ⟨#[47, 97]⟩ := ⟨_, rfl⟩
  have hal := heap_alloc_new w (.cells #[.slice none 0 0] 163)
  have hp := fun (w0 : World) (hb0 : Below (w.alloc (.cells #[.slice none 0 0] 163)).heap.size (w.alloc (.cells #[.slice none 0 0] 163)) w0) => pieces_parts w.heap.size w0 (fun w' => ∃ g cap, w'.heap[w.heap.size]? = some (.cells #[.slice (some ⟨g, 0, none⟩) 1 cap] 163 (0, 0)) ∧ w'.cell? ⟨g, 0, none⟩ = some (.string ⟨#[97]⟩) ∧ w.heap.size ≤ g ∧ g < w'.heap.size ∧ g ≠ w.heap.size ∧ Below w.heap.size w w')
    (fun w1 hb => parts1_none _ w1)
    (fun w1 hb => (parts1_a w.heap.size w.heap.size w1 ((hb.block _ (Nat.lt_of_lt_of_le (by simp) hb0.size)).trans ((hb0.block _ (by simp)).trans hal)) (Nat.le_refl _)).mono fun e w' ⟨h1, g, cap, h2, h3, h4, h5, h6, h7, h8⟩ => ⟨h1, g, cap, h3, h4.elem rfl, h6, h7, h8,
      ((Mod.of (((Below.refl w.heap.size w).alloc (Nat.le_refl _) _).trans (hb0.mono (by simp)))).trans (Out.refl _ _) ((Mod.of (hb.mono (by have := hb0.size; simp at this; omega))).trans (Out.refl _ _) h5)).below (S := fun b => b = w.heap.size) (fun b hb => by omega) (Nat.le_refl _)⟩)
  have hq := fun w0 => checkA_any w0
  have hpre := fun w0 => lib_prefix ⟨#[47, 97]⟩ ⟨#[47]⟩ w0
  have hpt : Lib.hasPrefix (ByteArray.mk #[47, 97]).data.toList (ByteArray.mk #[47]).data.toList = true := by decide
  rw [hpt] at hpre
  rw [← hs] at hp hq hpre ⊢
  have HP := Lib.hid hp
  have HQ := Lib.hid hq
  have HPR := Lib.hid hpre
  have HS := Lib.hid hs
  clear hp hq hs hpre
  go_enter Tryz.func136, Tryz.ntmps136
  go_wp2_with (first
    | (go_at_call 139; refine (HQ.out _).mono ?_; rintro e w1 ⟨rfl, hb1⟩)
    | (go_at_call 152; refine (HP.out w1 hb1).mono ?_; rintro e w2 ⟨rfl, g, cap, hc, hd, hg1, hg2, hg3, hb⟩; have c1 := one_block hc 0; have f1 := one_free hc 0; have HC := Lib.hid hc; clear hc))
  go_region_with
    ((first
      | (go_at_call 154; refine (HPR.out _).mono ?_; rintro e w3 ⟨rfl, rfl⟩)))
  all_goals
    go_wp2_with fail
    have hset := set_one HC.out (y := .slice (some ⟨g, 0, none⟩) 1 cap)
    have hm := mod_set (S := fun b => b = w.heap.size) (w := w2) rfl 0 (.slice (some ⟨g, 0, none⟩) 1 cap)
    refine bodyPost_ret (v := .tuple #[.slice (some ⟨g, 0, none⟩) 1 cap, .bool true, .int .i64 0]) (results_parts rfl rfl rfl (one_block hset 0)) rfl ?_
    refine ⟨g, cap, rfl, ?_, hg1, ?_, ?_⟩
    · exact (cell_same (w' := (w2.setCell ⟨w.heap.size, 0, none⟩ (.slice (some ⟨g, 0, none⟩) 1 cap)).drew) (hm.block g hg2 hg3) 0).trans hd
    · exact Nat.lt_of_lt_of_le hg2 hm.size
    · exact ((Mod.of hb).trans (Out.refl _ _) hm.drew).below (S := fun b => b = w.heap.size) (fun b hb => by omega) (Nat.le_refl _)

end Go.Proofs.YtkkmcnngpahfaaaGreatDoor

namespace Go.Proofs.YtkkmcnngpahfaaaGreatDoor
open Go.RowKit Go.Sort
set_option linter.unusedSimpArgs false
set_option linter.unusedVariables false

set_option maxHeartbeats 1000000 in
theorem containsS_a (g cap : Nat) (w : World) (h : w.cell? ⟨g, 0, none⟩ = some (.string ⟨#[97]⟩)) : Calls Tryz.prog 156 #[.slice (some ⟨g, 0, none⟩) 1 cap, .string ⟨#[46, 46]⟩] w fun e w' => e = .returned (.int .i64 (-1)) ∧ w' = w := by
  have hne : ((ByteArray.mk #[46, 46]).toList == (ByteArray.mk #[97]).toList) = false := by rw [Lib.toList_data, Lib.toList_data]; decide
  obtain ⟨s, hs⟩ : ∃ s : ByteArray, s = ⟨#[46, 46]⟩ := ⟨_, rfl⟩
  obtain ⟨t, ht⟩ : ∃ t : ByteArray, t = ⟨#[97]⟩ := ⟨_, rfl⟩
  rw [← hs, ← ht] at hne
  rw [← ht] at h
  rw [← hs]
  clear hs ht
  go_enter Tryz.func156, Tryz.ntmps156
  go_wp2
  go_loop [5, 8] (fun _ i => i = .int .i64 0 ∨ i = .int .i64 1) (fun _ i => match i with | .int _ m => 1 - m.toNat | _ => 0)
  case atStart => exact .inl rfl
  case round =>
    rcases hrel with rfl | rfl
    · go_wp2
      exact ⟨.inr rfl, by decide⟩
    · go_wp2
      go_ret
      exact ⟨rfl, rfl⟩

theorem containsS_no (g cap : Nat) (w : World) (h : w.cell? ⟨g, 0, none⟩ = some (.string ⟨#[97]⟩)) : Calls Tryz.prog 138 #[.slice (some ⟨g, 0, none⟩) 1 cap, .string ⟨#[46, 46]⟩] w fun e w' => e = .returned (.bool false) ∧ w' = w := by
  go_enter Tryz.func138, Tryz.ntmps138
  go_wp2_with (go_at_call 156; refine (containsS_a g cap _ h).mono ?_; rintro e w3 ⟨rfl, rfl⟩)
  go_ret
  exact ⟨rfl, rfl⟩

def entryA (A : Option Addr) (n c : Nat) : Value := .agg #[.string ⟨#[47, 97]⟩, .int .u8 1, .int .u16 420, .int .u32 0, .int .u32 0, .slice A n c, .string ByteArray.empty]
def VPartsPost (w : World) (e : Ending) (w' : World) : Prop := ∃ g cap, e = .returned (.tuple #[.slice (some ⟨g, 0, none⟩) 1 cap, .int .i64 0]) ∧ w'.cell? ⟨g, 0, none⟩ = some (.string ⟨#[97]⟩) ∧ w.heap.size ≤ g ∧ g < w'.heap.size ∧ Below w.heap.size w w'
set_option maxHeartbeats 2000000 in
theorem vparts_a (A : Option Addr) (n c : Nat) (w : World) (hn : n ≤ 65536) : Calls Tryz.prog 122 #[entryA A n c] w (VPartsPost w) := by
  have hpa := partsA_any
  have hta := fun W => tail_any ⟨#[47, 97]⟩ W (by decide)
  have ht : Lib.hasSuffix (ByteArray.mk #[47, 97]).data.toList [47] = false := by decide
  rw [ht] at hta
  obtain ⟨w0, hw0⟩ : ∃ w0, w0 = w.alloc (.cells #[.string ⟨#[47, 97]⟩, .int .u8 1, .int .u16 420, .int .u32 0, .int .u32 0, .slice A n c, .string ByteArray.empty] 106) := ⟨_, rfl⟩
  have hb0 : Below w.heap.size w w0 := by rw [hw0]; exact (Below.refl _ _).alloc (Nat.le_refl _) _
  have hE : w0.heap[w.heap.size]? = some (.cells #[.string ⟨#[47, 97]⟩, .int .u8 1, .int .u16 420, .int .u32 0, .int .u32 0, .slice A n c, .string ByteArray.empty] 106 (0, 0)) := by rw [hw0]; exact heap_alloc_new w _
  have hlt0 : w.heap.size < w0.heap.size := (Array.getElem?_eq_some_iff.1 hE).1
  obtain ⟨s, hs⟩ : ∃ s : ByteArray, s = ⟨#[47, 97]⟩ := ⟨_, rfl⟩
  unfold entryA
  rw [← hs] at hpa hta hw0 hE ⊢
  have d0 : w0.cell? ⟨w.heap.size, 0, none⟩ = some (.string s) := one_block hE 0
  have HPA := Lib.hid hpa
  have HTA := Lib.hid hta
  have HE := Lib.hid hE
  have HW0 := Lib.hid hw0
  clear hpa hta hs ht hE hw0
  go_enter Tryz.func122, Tryz.ntmps122
  go_upto_region 1 with (fail)
  rw [← HW0.out]
  go_wp2_with (first
    | (go_at_call 136; refine (HPA.out _).mono ?_; rintro e w1 ⟨g, cap, rfl, hc1, hg1, hg2, hb1⟩; have hE1 := (hb1.block _ hlt0).trans HE.out; have e0 : w1.cell? ⟨w.heap.size, 0, none⟩ = some (.string s) := one_block hE1 0; have e1 : w1.cell? ⟨w.heap.size, 1, none⟩ = some (.int .u8 1) := one_block hE1 1; have e2 : w1.cell? ⟨w.heap.size, 2, none⟩ = some (.int .u16 420) := one_block hE1 2; have e5 : w1.cell? ⟨w.heap.size, 5, none⟩ = some (.slice A n c) := one_block hE1 5; have e6 : w1.cell? ⟨w.heap.size, 6, none⟩ = some (.string ByteArray.empty) := one_block hE1 6; have HE1 := Lib.hid hE1; clear hE1)
    | (go_at_call 137; refine (HTA.out _).mono ?_; rintro e w2 ⟨rfl, rfl⟩)
    | (go_at_call 138; refine (containsS_no g cap _ hc1).mono ?_; rintro e w3 ⟨rfl, rfl⟩))
  go_ret2
  exact ⟨g, cap, rfl, hc1, Nat.le_trans hb0.size hg1, hg2, hb0.trans (hb1.mono hb0.size)⟩

end Go.Proofs.YtkkmcnngpahfaaaGreatDoor

namespace Go.Proofs.YtkkmcnngpahfaaaGreatDoor
open Go.RowKit Go.Sort
set_option linter.unusedSimpArgs false
set_option linter.unusedVariables false

set_option maxHeartbeats 2000000 in
set_option maxRecDepth 100000 in
theorem pcs_chk (bo : Nat) (s : ByteArray) (w : World) (R : World → List ByteArray → Prop) (go : List ByteArray → Bool) (hsz : s.size ≤ 1000000000)
    (hk : ∀ w1 w2 l, R w1 l → Mod (fun b => b = w.heap.size) w1 w2 → w1.heap.size = w2.heap.size → R w2 l)
    (h0 : R (w.alloc (.stringIter s 0)) [])
    (hst : ∀ w1 l x, l.length ≤ s.size → x.size ≤ s.size → w.heap.size < w1.heap.size → R w1 l → Calls Tryz.prog 158 (#[.string x] ++ #[.pointer (some ⟨bo, 0, none⟩)]) w1 fun e w2 => e = .returned (.bool (go (l ++ [x]))) ∧ R w2 (l ++ [x]) ∧ w2.heap[w.heap.size]? = w1.heap[w.heap.size]?) :
    Calls Tryz.prog 152 #[.string s, .func (.func 158) #[] #[.pointer (some ⟨bo, 0, none⟩)]] w fun e w' => e = .returned (.tuple #[]) ∧ ∃ l, R w' l ∧ (l = pieces s ∨ ∃ r, l ++ r = pieces s ∧ go l = false) := by
  have HST := Lib.hid hst
  have HKK := Lib.hid hk
  have H0 := Lib.hid h0
  clear hst hk h0
  go_enter Tryz.func152, Tryz.ntmps152
  go_wp2_with fail
  go_loopw [4] (fun i wr => ∃ pos fr l, pos ≤ s.size ∧ fr ≤ pos ∧ i = .int .i64 ((fr : Nat) : Int) ∧ wr.heap[w.heap.size]? = some (.stringIter s pos) ∧ R wr l ∧ l ++ cuts s pos fr = pieces s) (fun _ wr => s.size - wr.iterPos w.heap.size)
  case atStart => exact ⟨0, 0, [], by omega, by omega, rfl, World.iter_heap w s 0, H0.out, rfl⟩
  case round =>
    obtain ⟨pos, fr, l, hp, hfr, rfl, hit, hR, hcut⟩ := hrel
    have hpos := iterPos_of hit
    have HIT := Lib.hid hit
    have HR := Lib.hid hR
    have HCUT := Lib.hid hcut
    clear hit hR hcut
    have hll : l.length ≤ s.size := by
      have h1 := congrArg List.length HCUT.out
      have h2 := pieces_length s
      have h3 : 0 < (cuts s pos fr).length := by
        by_cases c : pos < s.size
        · unfold cuts
          cases hz : s.size - pos with
          | zero => omega
          | succ z =>
            clear h1 h2
            have : ∀ z pos fr, 0 < (cutsN s z pos fr).length := by
              intro z
              induction z with
              | zero => intro pos fr; exact Nat.zero_lt_one
              | succ z ih =>
                intro pos fr
                unfold cutsN
                split
                · split
                  · simp
                  · exact ih _ _
                · exact Nat.zero_lt_one
            exact this _ _ _
        · rw [cuts_end c]; exact Nat.zero_lt_one
      rw [List.length_append] at h1
      omega
    have hlt := (Array.getElem?_eq_some_iff.1 HIT.out).1
    by_cases hps : pos < s.size
    · obtain ⟨k1, k2, k3, k4⟩ := rune_step s pos hps
      obtain ⟨r, hr⟩ : ∃ r, r = (Utf8.decode s pos).1 := ⟨_, rfl⟩
      obtain ⟨d, hd⟩ : ∃ d, d = (Utf8.decode s pos).2 := ⟨_, rfl⟩
      have hnx := fun ty => Go.Lib.run_next_any_at (P := Tryz.prog) wr w.heap.size s pos ty HIT.out hps
      rw [← hr, ← hd] at hnx
      rw [← hr] at k3 k4
      rw [← hd] at k1 k2 k3 k4
      have hm1 : Mod (fun b => b = w.heap.size) wr (wr.iterAt w.heap.size s (pos + d)) := ⟨rfl, rfl, rfl, by rw [Go.Lib.iterAt_size]; exact Nat.le_refl _, fun b _ hb => Go.Lib.iterAt_other wr w.heap.size b s _ hb⟩
      have hR1 := HKK.out _ _ _ HR.out hm1 (Go.Lib.iterAt_size wr w.heap.size s (pos + d)).symm
      have hit1 := Go.Lib.iterAt_heap wr w.heap.size s pos (pos + d) HIT.out
      have hz1 := Go.Lib.iterAt_size wr w.heap.size s (pos + d)
      obtain ⟨w1, hw⟩ : ∃ w1, w1 = wr.iterAt w.heap.size s (pos + d) := ⟨_, rfl⟩
      rw [← hw] at hR1 hit1 hnx hz1
      have HI1 := Lib.hid hit1
      have HR1 := Lib.hid hR1
      have hp1 := iterPos_of hit1
      clear hit1 hR1 hw hm1 hr hd
      by_cases hr47 : r = 47
      · subst hr47
        obtain ⟨k5, rfl⟩ := k3 rfl
        have HC2 := Lib.hid (show (l ++ [s.extract fr pos]) ++ cuts s (pos + 1) (pos + 1) = pieces s by rw [List.append_assoc, List.singleton_append, ← cuts_slash hps k5]; exact HCUT.out)
        have hstep := HST.out w1 l (s.extract fr pos) hll (by rw [ByteArray.size_extract]; omega) (by omega) HR1.out
        clear k3 k4 k5
        cases hgo : go (l ++ [s.extract fr pos]) with
        | true =>
          rw [hgo] at hstep
          have HSTEP := Lib.hid hstep
          have HGO := Lib.hid hgo
          clear hstep hgo
          go_wp2_with (first
            | (go_at_call 158; refine (HSTEP.out).mono ?_; rintro e w2 ⟨rfl, hR2, hK2⟩; have HR2 := Lib.hid hR2; have HI2 := Lib.hid (hK2.trans HI1.out); have hp2 := iterPos_of HI2.out; clear hR2 hK2)
            | fail)
          go_roundw
          case rel => exact ⟨pos + 1, pos + 1, _, by omega, by omega, by go_num, HI2.out, HR2.out, HC2.out⟩
          case measure => (rw [hp2, hpos]; omega)
        | false =>
          rw [hgo] at hstep
          have HSTEP := Lib.hid hstep
          have HGO := Lib.hid hgo
          clear hstep hgo
          go_wp2_with (first
            | (go_at_call 158; refine (HSTEP.out).mono ?_; rintro e w2 ⟨rfl, hR2, hK2⟩; have HR2 := Lib.hid hR2; clear hR2 hK2)
            | fail)
          refine bodyPost_ret (results_none rfl _ _ _) rfl ?_
          exact ⟨rfl, _, HR2.out, .inr ⟨_, HC2.out, HGO.out⟩⟩
      · have hne : (((r : Nat) : Int) != 47) = true := by rw [bne_iff_ne]; omega
        have HC2 := Lib.hid (show l ++ cuts s (pos + d) fr = pieces s by rw [← cuts_skip d k2 (k4 hr47)]; exact HCUT.out)
        clear k3 k4 hr47
        go_wp2_with fail
        go_roundw
        case rel => exact ⟨pos + d, fr, l, k2, by omega, rfl, HI1.out, HR1.out, HC2.out⟩
        case measure => (rw [hp1, hpos]; omega)
    · have hnx := fun ty => Go.Lib.run_next_end_at (P := Tryz.prog) wr w.heap.size s pos ty HIT.out hps
      have HC2 := Lib.hid (show l ++ [s.extract fr s.size] = pieces s by rw [← cuts_end hps]; exact HCUT.out)
      have hstep := HST.out wr l (s.extract fr s.size) hll (by rw [ByteArray.size_extract]; omega) hlt HR.out
      have HSTEP := Lib.hid hstep
      clear hstep
      go_wp2_with (first
        | (go_at_call 158; refine (HSTEP.out).mono ?_; rintro e w2 ⟨rfl, hR2, hK2⟩; have HR2 := Lib.hid hR2; clear hR2 hK2)
        | fail)
      go_end0
      exact ⟨rfl, _, HR2.out, .inl HC2.out⟩


def errB (b : Bool) : Int := if b = true then 11 else 0
theorem check1_st (bo : Nat) (x : ByteArray) (b : Bool) (w : World) (hB : w.heap[bo]? = some (.cells #[.int .i64 (errB b)] 32 (0, 0))) :
    Calls Tryz.prog 158 (#[.string x] ++ #[.pointer (some ⟨bo, 0, none⟩)]) w fun e w' => e = .returned (.bool (!(b || decide (32 < x.size)))) ∧ w'.heap[bo]? = some (.cells #[.int .i64 (errB (b || decide (32 < x.size)))] 32 (0, 0)) ∧ Mod (fun j => j = bo) w w' := by
  have c0 := one_block hB 0
  have f0 := one_free hB 0
  have HB := Lib.hid hB
  clear hB
  by_cases hx : 32 < x.size
  · have e1 : (b || decide (32 < x.size)) = true := by simp [hx]
    rw [e1]
    have e2 : errB true = 11 := rfl
    rw [e2]
    clear e1 e2
    go_enter Tryz.func158, Tryz.ntmps158
    go_wp2_with fail
    go_ret
    exact ⟨rfl, set_one HB.out, mod_set (S := fun j => j = bo) rfl 0 _⟩
  · have e1 : (b || decide (32 < x.size)) = b := by simp [hx]
    rw [e1]
    clear e1
    cases b
    all_goals
      simp only [errB] at c0 HB ⊢
      go_enter Tryz.func158, Tryz.ntmps158
      go_wp2_with fail
      go_ret
      exact ⟨rfl, HB.out, Mod.refl _ _⟩

theorem longP_snoc (l : List ByteArray) (x : ByteArray) : longP (l ++ [x]) = (longP l || decide (32 < x.size)) := by simp [longP]
theorem longP_sub {l r : List ByteArray} (h : longP l = true) : longP (l ++ r) = true := by unfold longP at h ⊢; rw [List.any_append, h]; rfl

set_option maxHeartbeats 1000000 in
theorem chk_any (s : ByteArray) (w : World) (hs : s.size ≤ 1000000000) : Calls Tryz.prog 139 #[.string s] w fun e w' => e = .returned (.int .i64 (chk s)) ∧ Below w.heap.size w w' := by
  by_cases h0 : s.size = 0
  · obtain rfl : s = ⟨#[]⟩ := by
      cases s with
      | mk d => cases d with
        | mk l => cases l with
          | nil => rfl
          | cons x l => simp [ByteArray.size] at h0
    have hc : chk ⟨#[]⟩ = 3 := rfl
    rw [hc]
    clear hc hs h0
    go_enter Tryz.func139, Tryz.ntmps139
    go_wp2_with fail
    go_ret
    exact ⟨rfl, Below.refl _ _⟩
  have hne : s.toList.isEmpty = false := by
    cases hc : s.toList with
    | nil =>
      exfalso
      apply h0
      have h9 : s.data.toList = [] := by rw [← hc]; exact (ByteArray.toList_eq s).symm
      have h8 : s.data.toList.length = 0 := by rw [h9]; rfl
      exact h8
    | cons x l => rfl
  by_cases hz : 0 ≤ Lib.indexByte s.data.toList 0
  · have hc : chk s = 1 := by unfold chk; rw [if_neg h0, if_pos hz]
    rw [hc]
    have hcon := lib_contains1 s 0 w
    rw [decide_eq_true hz] at hcon
    have HCON := Lib.hid hcon
    clear hcon hz hc
    go_enter Tryz.func139, Tryz.ntmps139
    go_wp2_with (first
      | (go_at_call 157; refine (HCON.out).mono ?_; rintro e w1 ⟨rfl, rfl⟩)
      | fail)
    go_ret
    exact ⟨rfl, Below.refl _ _⟩
  have hcon := lib_contains1 s 0 w
  rw [decide_eq_false hz] at hcon
  have HCON := Lib.hid hcon
  clear hcon
  by_cases hl : 200 < s.size
  · have hc : chk s = 11 := by unfold chk; rw [if_neg h0, if_neg hz, if_pos hl]
    rw [hc]
    clear hz hc
    go_enter Tryz.func139, Tryz.ntmps139
    go_wp2_with (first
      | (go_at_call 157; refine (HCON.out).mono ?_; rintro e w1 ⟨rfl, rfl⟩)
      | fail)
    go_ret
    exact ⟨rfl, Below.refl _ _⟩
  have hc : chk s = errB (longP (pieces s)) := by unfold chk errB; rw [if_neg h0, if_neg hz, if_neg hl]
  rw [hc]
  obtain ⟨w0, hw0⟩ : ∃ w0, w0 = w.alloc (.cells #[.int .i64 0] 32) := ⟨_, rfl⟩
  have hb0 : Below w.heap.size w w0 := by rw [hw0]; exact (Below.refl _ _).alloc (Nat.le_refl _) _
  have hE : w0.heap[w.heap.size]? = some (.cells #[.int .i64 0] 32 (0, 0)) := by rw [hw0]; exact heap_alloc_new w _
  have hz0 : w0.heap.size = w.heap.size + 1 := by rw [hw0]; simp
  have hpc := pcs_chk w.heap.size s w0 (fun w1 l => Below w.heap.size w w1 ∧ w1.heap[w.heap.size]? = some (.cells #[.int .i64 (errB (longP l))] 32 (0, 0))) (fun l => !longP l) hs
    (fun w1 w2 l ⟨h1, h2⟩ hm hsz => ⟨h1.trans (hm.below (fun b hb => by have := h1.size; omega) h1.size), (hm.block _ (Array.getElem?_eq_some_iff.1 h2).1 (by omega)).trans h2⟩)
    ⟨hb0.alloc (by omega) _, (Below.heap_alloc _ _ _ (by omega)).trans hE⟩
    (fun w1 l x _ _ hk ⟨h1, h2⟩ => (check1_st w.heap.size x (longP l) w1 h2).mono fun e w2 ⟨he, h3, h4⟩ => ⟨by rw [he, longP_snoc], ⟨h1.trans (h4.below (fun b hb => by omega) h1.size), by rw [longP_snoc]; exact h3⟩, h4.block _ hk (by omega)⟩)
  have HW0 := Lib.hid hw0
  have HPC := Lib.hid hpc
  clear hpc hw0 hz hc hb0 hE
  go_enter Tryz.func139, Tryz.ntmps139
  go_upto_region 8 with (first
    | (go_at_call 157; refine (HCON.out).mono ?_; rintro e w1 ⟨rfl, rfl⟩)
    | fail)
  rw [← HW0.out]
  go_wp2_with (first
    | (go_at_call 152; refine (HPC.out).mono ?_; rintro e w1 ⟨rfl, l, ⟨hb1, hB1⟩, hl1⟩; have c1 := one_block hB1 0; have HB1 := Lib.hid hb1; have HL1 := Lib.hid hl1; clear hb1 hB1 hl1)
    | fail)
  have hlq : longP l = longP (pieces s) := by
    rcases HL1.out with e1 | ⟨r, e1, e2⟩
    · rw [e1]
    · have e3 : longP l = true := by cases hc : longP l with
        | true => rfl
        | false => rw [hc] at e2; cases e2
      rw [← e1, longP_sub e3, e3]
  rw [← hlq]
  go_ret
  exact ⟨rfl, HB1.out⟩

end Go.Proofs.YtkkmcnngpahfaaaGreatDoor

namespace Go.Proofs.YtkkmcnngpahfaaaGreatDoor
open Go.RowKit Go.Sort
set_option linter.unusedSimpArgs false
set_option linter.unusedVariables false

theorem isPart_no {x : ByteArray} (h : isPart x = false) : x = ⟨#[]⟩ ∨ x = ⟨#[46]⟩ := by
  unfold isPart at h
  have h1 : (x.data == #[] || x.data == #[46]) = true := by
    cases hc : (x.data == #[] || x.data == #[46]) with
    | true => rfl
    | false => rw [hc] at h; cases h
  rcases Bool.or_eq_true_iff.1 h1 with e | e
  · left; cases x with | mk d => exact congrArg ByteArray.mk (eq_of_beq e)
  · right; cases x with | mk d => exact congrArg ByteArray.mk (eq_of_beq e)
theorem isPart_tests {x : ByteArray} (h : isPart x = true) : ¬ x.toList = [] ∧ (!x.toList.isEmpty) = true ∧ (!x.toList == [46]) = true := by
  have h1 : ∀ a : List UInt8, x.toList = a → x = ⟨a.toArray⟩ := fun a e => by
    cases x with | mk d => rw [ByteArray.toList_eq] at e; rw [← e]
  have n1 : ¬ x.toList = [] := fun e => by rw [h1 _ e] at h; cases h
  refine ⟨n1, ?_, ?_⟩
  · cases hc : x.toList with
    | nil => exact absurd hc n1
    | cons a l => rfl
  · cases hc : (x.toList == [46]) with
    | false => rfl
    | true => rw [h1 _ (eq_of_beq hc)] at h; cases h
theorem parts1_no (bo : Nat) (x : ByteArray) (w : World) (h : isPart x = false) : Calls Tryz.prog 153 (#[.string x] ++ #[.pointer (some ⟨bo, 0, none⟩)]) w fun e w' => e = .returned (.bool true) ∧ w' = w := by
  rcases isPart_no h with rfl | rfl
  all_goals
    clear h
    go_enter Tryz.func153, Tryz.ntmps153
    go_wp2_with fail
    go_ret
    exact ⟨rfl, rfl⟩
theorem OwnS.form {w : World} {base : Nat} {A : Option Addr} {cap : Nat} {l : List ByteArray} (h : OwnS w base A cap l) : (A = none ∧ l = [] ∧ cap = 0) ∨ ∃ g, A = some ⟨g, 0, none⟩ ∧ base ≤ g ∧ g < w.heap.size ∧ l.length ≤ cap := by
  rcases h.2 with ⟨h2, h3⟩ | ⟨g, cap', cur, h1, h2, h3, h4, _⟩
  · injection h2 with e1 e2 e3
    exact .inl ⟨e1, by simpa using h3, e3⟩
  · injection h1 with e1 e2 e3
    exact .inr ⟨g, e1, h2, (Array.getElem?_eq_some_iff.1 h3).1, by omega⟩
theorem OwnS.lower {w : World} {base base' cap : Nat} {A : Option Addr} {l : List ByteArray} (h : OwnS w base A cap l) (hb : base' ≤ base) : OwnS w base' A cap l := by
  refine ⟨h.1, ?_⟩
  rcases h.2 with h2 | ⟨g, cap', cur, h1, h2, h3⟩
  · exact .inl h2
  · exact .inr ⟨g, cap', cur, h1, by omega, h3⟩
theorem StrRow.cell {l : List ByteArray} {w w0 w1 : World} {base bo n cap : Nat} {A : Option Addr} {ty : TypeId} (hF : (A = none ∧ l = [] ∧ cap = 0) ∨ ∃ g, A = some ⟨g, 0, none⟩ ∧ base ≤ g ∧ g < w.heap.size ∧ l.length ≤ cap) (hAB : ∀ g, A = some ⟨g, 0, none⟩ → g ≠ bo)
    (hB : w.heap[bo]? = some (.cells #[.slice A n cap] ty (0, 0))) (hb : Below w.heap.size w w0) (hg : w0.grownBy w1 (A.map (·.block))) : w1.heap[bo]? = some (.cells #[.slice A n cap] ty (0, 0)) := by
  have hbw := (Array.getElem?_eq_some_iff.1 hB).1
  refine (hg.block bo (Nat.lt_of_lt_of_le hbw hb.size) fun e => ?_).trans ((hb.block bo hbw).trans hB)
  rcases hF with ⟨e', _⟩ | ⟨g', e', _, _, _⟩
  · rw [e'] at e; cases e
  · rw [e'] at e
    exact hAB g' e' (by simpa using e.symm)
/-- The parts' row, behind its box. -/
def PartsBox (bo base : Nat) (l : List ByteArray) (w : World) : Prop := ∃ A cap, w.heap[bo]? = some (.cells #[.slice A l.length cap] 163 (0, 0)) ∧ OwnS w base A cap l ∧ (∀ g, A = some ⟨g, 0, none⟩ → g ≠ bo)
set_option maxHeartbeats 1000000 in
theorem parts1_yes (bo base : Nat) (x : ByteArray) (l : List ByteArray) (w : World) (h : isPart x = true) (hB : PartsBox bo base l w) (hfew : l.length < 100000) (hbz : base ≤ w.heap.size) :
    Calls Tryz.prog 153 (#[.string x] ++ #[.pointer (some ⟨bo, 0, none⟩)]) w fun e w' => e = .returned (.bool true) ∧ PartsBox bo base (l ++ [x]) w' ∧ Mod (fun b => b = bo ∨ base ≤ b) w w' := by
  obtain ⟨A, cap, hB, hO, hA⟩ := hB
  have c0 : w.cell? ⟨bo, 0, none⟩ = some (.slice A l.length cap) := one_block hB 0
  have f0 : w.frozen? ⟨bo, 0, none⟩ = false := one_free hB 0
  have HB := Lib.hid hB
  clear hB
  obtain ⟨t1, t2, t3⟩ := isPart_tests h
  have hbw : bo < w.heap.size := (Array.getElem?_eq_some_iff.1 HB.out).1
  have hform := OwnS.form hO
  obtain ⟨k, hk⟩ : ∃ k, k = l.length := ⟨_, rfl⟩
  rw [← hk] at c0
  have hbe := Lib.hid ((Below.refl w.heap.size w).alloc (Nat.le_refl _) (.cells #[.string x] 9))
  have hfew' : k < 100000 := by omega
  have HF := Lib.hid hform
  have HAB := Lib.hid hA
  have HO := Lib.hid hO
  have HK := Lib.hid hk
  clear h hA hO hk hform hfew
  have HB' : Hid (w.heap[bo]? = some (.cells #[.slice A k cap] 163 (0, 0))) := by have := HB.out; rw [← HK.out] at this; exact Lib.hid this
  clear HB
  go_enter Tryz.func153, Tryz.ntmps153
  go_wp2_with (first
    | (at_builtin; refine app_str rfl (.tmp 10) (.tmp 12) rfl base A cap l (HK.out ▸ rfl) (World.ownsRow.alloc HO.out _) x w.heap.size 1 rfl (heap_alloc_new _ _) (by rw [← HK.out]; omega) (by simp; omega) ?_; intro g cap' w1 ho hg hat hlt; rw [← HK.out]; have hB2 := StrRow.cell HF.out HAB.out HB'.out hbe.out hg; have c1 := one_block hB2 0; have f1 := one_free hB2 0; have HB1 := Lib.hid hB2; have HO1 := Lib.hid ho; have HG := Lib.hid hg; have HAT := Lib.hid hat; clear hB2 ho hg hat)
    | fail)
  go_ret
  have hg := HG.out
  have hz := hg.size
  have hz1 : w.heap.size + 1 ≤ w1.heap.size := by simpa using hz
  have hgb : g ≠ bo := by
    rcases HAT.out with e | e
    · cases hAA : A with
      | none => rw [hAA] at e; cases e
      | some ad =>
        rcases HF.out with ⟨e', _⟩ | ⟨g', e', _, _, _⟩
        · rw [hAA] at e'; cases e'
        · have h1 := HAB.out g' e'
          rw [e'] at e
          simp at e
          omega
    · simp at e; omega
  have hgbase : base ≤ g := by
    rcases HAT.out with e | e
    · rcases HF.out with ⟨e', _⟩ | ⟨g', e', h2, _, _⟩
      · rw [e'] at e; cases e
      · rw [e'] at e; simp at e; omega
    · simp at e; omega
  have hset := set_one HB1.out (y := .slice (some ⟨g, 0, none⟩) (k + 1) cap')
  have hm := mod_set (S := fun b => b = bo) (w := w1) (b := bo) rfl 0 (.slice (some ⟨g, 0, none⟩) (k + 1) cap')
  refine ⟨rfl, ⟨some ⟨g, 0, none⟩, cap', by rw [List.length_append, ← HK.out]; exact hset, OwnS.same HO1.out fun g' e' => by
    injection e' with e'
    injection e' with e'
    exact hm.block g' (e' ▸ hlt) (by omega), fun g' e' => by
    injection e' with e'
    injection e' with e'
    omega⟩, ?_⟩
  have hb1 : Mod (fun b => b = bo ∨ base ≤ b) w w1 := ⟨hg.os, hg.tape, hg.output, by omega, fun b hb hn => (hg.block b (by simp; omega) (fun e => by
    rcases HF.out with ⟨e', _⟩ | ⟨g', e', h2, _, _⟩
    · rw [e'] at e; cases e
    · rw [e'] at e; simp at e; exact hn (.inr (by omega)))).trans (Below.heap_alloc _ _ _ (by omega))⟩
  exact hb1.trans (Out.refl _ _) (hm.sub fun b hb => .inl hb)

theorem PartsBox.mod {bo base : Nat} {l : List ByteArray} {w w' : World} {X : Nat → Prop} (h : PartsBox bo base l w) (hm : Mod X w w') (hX : ¬ X bo) (hX2 : ∀ b, base ≤ b → ¬ X b) : PartsBox bo base l w' := by
  obtain ⟨A, cap, hB, hO, hA⟩ := h
  refine ⟨A, cap, (hm.block bo (Array.getElem?_eq_some_iff.1 hB).1 hX).trans hB, hO.same fun g hg => ?_, hA⟩
  rcases hO.form with ⟨e, _⟩ | ⟨g', e, h1, h2, _⟩
  · rw [e] at hg; cases hg
  · rw [e] at hg
    injection hg with hg
    injection hg with hg
    subst hg
    exact hm.block _ h2 (hX2 _ h1)

set_option maxHeartbeats 2000000 in
set_option maxRecDepth 100000 in
theorem pcs_parts (bo : Nat) (s : ByteArray) (w : World) (R : World → List ByteArray → Prop) (go : List ByteArray → Bool) (hsz : s.size ≤ 1000000000)
    (hk : ∀ w1 w2 l, R w1 l → Mod (fun b => b = w.heap.size) w1 w2 → w1.heap.size = w2.heap.size → R w2 l)
    (h0 : R (w.alloc (.stringIter s 0)) [])
    (hst : ∀ w1 l x, l.length ≤ s.size → x.size ≤ s.size → w.heap.size < w1.heap.size → R w1 l → Calls Tryz.prog 153 (#[.string x] ++ #[.pointer (some ⟨bo, 0, none⟩)]) w1 fun e w2 => e = .returned (.bool (go (l ++ [x]))) ∧ R w2 (l ++ [x]) ∧ w2.heap[w.heap.size]? = w1.heap[w.heap.size]?) :
    Calls Tryz.prog 152 #[.string s, .func (.func 153) #[] #[.pointer (some ⟨bo, 0, none⟩)]] w fun e w' => e = .returned (.tuple #[]) ∧ ∃ l, R w' l ∧ (l = pieces s ∨ ∃ r, l ++ r = pieces s ∧ go l = false) := by
  have HST := Lib.hid hst
  have HKK := Lib.hid hk
  have H0 := Lib.hid h0
  clear hst hk h0
  go_enter Tryz.func152, Tryz.ntmps152
  go_wp2_with fail
  go_loopw [4] (fun i wr => ∃ pos fr l, pos ≤ s.size ∧ fr ≤ pos ∧ i = .int .i64 ((fr : Nat) : Int) ∧ wr.heap[w.heap.size]? = some (.stringIter s pos) ∧ R wr l ∧ l ++ cuts s pos fr = pieces s) (fun _ wr => s.size - wr.iterPos w.heap.size)
  case atStart => exact ⟨0, 0, [], by omega, by omega, rfl, World.iter_heap w s 0, H0.out, rfl⟩
  case round =>
    obtain ⟨pos, fr, l, hp, hfr, rfl, hit, hR, hcut⟩ := hrel
    have hpos := iterPos_of hit
    have HIT := Lib.hid hit
    have HR := Lib.hid hR
    have HCUT := Lib.hid hcut
    clear hit hR hcut
    have hll : l.length ≤ s.size := by
      have h1 := congrArg List.length HCUT.out
      have h2 := pieces_length s
      have h3 : 0 < (cuts s pos fr).length := by
        by_cases c : pos < s.size
        · unfold cuts
          cases hz : s.size - pos with
          | zero => omega
          | succ z =>
            clear h1 h2
            have : ∀ z pos fr, 0 < (cutsN s z pos fr).length := by
              intro z
              induction z with
              | zero => intro pos fr; exact Nat.zero_lt_one
              | succ z ih =>
                intro pos fr
                unfold cutsN
                split
                · split
                  · simp
                  · exact ih _ _
                · exact Nat.zero_lt_one
            exact this _ _ _
        · rw [cuts_end c]; exact Nat.zero_lt_one
      rw [List.length_append] at h1
      omega
    have hlt := (Array.getElem?_eq_some_iff.1 HIT.out).1
    by_cases hps : pos < s.size
    · obtain ⟨k1, k2, k3, k4⟩ := rune_step s pos hps
      obtain ⟨r, hr⟩ : ∃ r, r = (Utf8.decode s pos).1 := ⟨_, rfl⟩
      obtain ⟨d, hd⟩ : ∃ d, d = (Utf8.decode s pos).2 := ⟨_, rfl⟩
      have hnx := fun ty => Go.Lib.run_next_any_at (P := Tryz.prog) wr w.heap.size s pos ty HIT.out hps
      rw [← hr, ← hd] at hnx
      rw [← hr] at k3 k4
      rw [← hd] at k1 k2 k3 k4
      have hm1 : Mod (fun b => b = w.heap.size) wr (wr.iterAt w.heap.size s (pos + d)) := ⟨rfl, rfl, rfl, by rw [Go.Lib.iterAt_size]; exact Nat.le_refl _, fun b _ hb => Go.Lib.iterAt_other wr w.heap.size b s _ hb⟩
      have hR1 := HKK.out _ _ _ HR.out hm1 (Go.Lib.iterAt_size wr w.heap.size s (pos + d)).symm
      have hit1 := Go.Lib.iterAt_heap wr w.heap.size s pos (pos + d) HIT.out
      have hz1 := Go.Lib.iterAt_size wr w.heap.size s (pos + d)
      obtain ⟨w1, hw⟩ : ∃ w1, w1 = wr.iterAt w.heap.size s (pos + d) := ⟨_, rfl⟩
      rw [← hw] at hR1 hit1 hnx hz1
      have HI1 := Lib.hid hit1
      have HR1 := Lib.hid hR1
      have hp1 := iterPos_of hit1
      clear hit1 hR1 hw hm1 hr hd
      by_cases hr47 : r = 47
      · subst hr47
        obtain ⟨k5, rfl⟩ := k3 rfl
        have HC2 := Lib.hid (show (l ++ [s.extract fr pos]) ++ cuts s (pos + 1) (pos + 1) = pieces s by rw [List.append_assoc, List.singleton_append, ← cuts_slash hps k5]; exact HCUT.out)
        have hstep := HST.out w1 l (s.extract fr pos) hll (by rw [ByteArray.size_extract]; omega) (by omega) HR1.out
        clear k3 k4 k5
        cases hgo : go (l ++ [s.extract fr pos]) with
        | true =>
          rw [hgo] at hstep
          have HSTEP := Lib.hid hstep
          have HGO := Lib.hid hgo
          clear hstep hgo
          go_wp2_with (first
            | (go_at_call 153; refine (HSTEP.out).mono ?_; rintro e w2 ⟨rfl, hR2, hK2⟩; have HR2 := Lib.hid hR2; have HI2 := Lib.hid (hK2.trans HI1.out); have hp2 := iterPos_of HI2.out; clear hR2 hK2)
            | fail)
          go_roundw
          case rel => exact ⟨pos + 1, pos + 1, _, by omega, by omega, by go_num, HI2.out, HR2.out, HC2.out⟩
          case measure => (rw [hp2, hpos]; omega)
        | false =>
          rw [hgo] at hstep
          have HSTEP := Lib.hid hstep
          have HGO := Lib.hid hgo
          clear hstep hgo
          go_wp2_with (first
            | (go_at_call 153; refine (HSTEP.out).mono ?_; rintro e w2 ⟨rfl, hR2, hK2⟩; have HR2 := Lib.hid hR2; clear hR2 hK2)
            | fail)
          refine bodyPost_ret (results_none rfl _ _ _) rfl ?_
          exact ⟨rfl, _, HR2.out, .inr ⟨_, HC2.out, HGO.out⟩⟩
      · have hne : (((r : Nat) : Int) != 47) = true := by rw [bne_iff_ne]; omega
        have HC2 := Lib.hid (show l ++ cuts s (pos + d) fr = pieces s by rw [← cuts_skip d k2 (k4 hr47)]; exact HCUT.out)
        clear k3 k4 hr47
        go_wp2_with fail
        go_roundw
        case rel => exact ⟨pos + d, fr, l, k2, by omega, rfl, HI1.out, HR1.out, HC2.out⟩
        case measure => (rw [hp1, hpos]; omega)
    · have hnx := fun ty => Go.Lib.run_next_end_at (P := Tryz.prog) wr w.heap.size s pos ty HIT.out hps
      have HC2 := Lib.hid (show l ++ [s.extract fr s.size] = pieces s by rw [← cuts_end hps]; exact HCUT.out)
      have hstep := HST.out wr l (s.extract fr s.size) hll (by rw [ByteArray.size_extract]; omega) hlt HR.out
      have HSTEP := Lib.hid hstep
      clear hstep
      go_wp2_with (first
        | (go_at_call 153; refine (HSTEP.out).mono ?_; rintro e w2 ⟨rfl, hR2, hK2⟩; have HR2 := Lib.hid hR2; clear hR2 hK2)
        | fail)
      go_end0
      exact ⟨rfl, _, HR2.out, .inl HC2.out⟩


theorem filter_snoc_yes {x : ByteArray} (l : List ByteArray) (h : isPart x = true) : (l ++ [x]).filter isPart = l.filter isPart ++ [x] := by
  rw [List.filter_append, List.filter_cons_of_pos h]; rfl
theorem filter_snoc_no {x : ByteArray} (l : List ByteArray) (h : isPart x = false) : (l ++ [x]).filter isPart = l.filter isPart := by
  rw [List.filter_append, List.filter_cons_of_neg (by rw [h]; decide)]
  simp
theorem results_partsG {tmps : Array Value} {w : World} {bo : Nat} {v b r : Value} (h2 : tmps.getD 2 undef = .pointer (some ⟨bo, 0, none⟩)) (h3 : tmps.getD 3 undef = b) (h4 : tmps.getD 4 undef = r) (hc : w.cell? ⟨bo, 0, none⟩ = some v) (hv : v.oneCell' = true) :
    (results Tryz.f136 tmps).run Tryz.prog w = .ok (.tuple #[v, b, r]) w := by
  rw [results_cell_tmp2 rfl, h2, h3, h4]
  go_simp

theorem parts_err (s : ByteArray) (w : World) (hs : s.size ≤ 1000000000) (hc : chk s ≠ 0) : Calls Tryz.prog 136 #[.string s] w fun e w' => e = .returned (.tuple #[.slice none 0 0, .bool false, .int .i64 (chk s)]) ∧ Below w.heap.size w w' := by
  have hq := fun w0 => chk_any s w0 hs
  obtain ⟨r, hr⟩ : ∃ r, r = chk s := ⟨_, rfl⟩
  rw [← hr] at hq hc ⊢
  have hal := heap_alloc_new w (.cells #[.slice none 0 0] 163)
  have hne : (r != 0) = true := by rw [bne_iff_ne]; exact hc
  have HQ := Lib.hid hq
  have HAL := Lib.hid hal
  clear hq hr hc hal
  go_enter Tryz.func136, Tryz.ntmps136
  go_wp2_with (first
    | (go_at_call 139; refine (HQ.out _).mono ?_; rintro e w1 ⟨rfl, hb1⟩; have hB := (hb1.block _ (by simp)).trans HAL.out; have c1 := one_block hB 0; have f1 := one_free hB 0; have HB := Lib.hid hB; clear hB))
  have hset := set_one HB.out (y := .slice none 0 0)
  refine bodyPost_ret (v := .tuple #[.slice none 0 0, .bool false, .int .i64 r]) (results_partsG rfl rfl rfl (one_block hset 0) rfl) rfl ?_
  exact ⟨rfl, (((Below.refl _ _).alloc (Nat.le_refl _) _).trans (hb1.mono (by simp))).setCell (Nat.le_refl _) _⟩

def PartsOkPost (s : ByteArray) (w : World) (e : Ending) (w' : World) : Prop := ∃ A cap, e = .returned (.tuple #[.slice A (partsOf s).length cap, .bool (Lib.hasPrefix s.data.toList [47]), .int .i64 0]) ∧ OwnS w' w.heap.size A cap (partsOf s) ∧ Below w.heap.size w w'
set_option maxHeartbeats 1000000 in
theorem parts_ok (s : ByteArray) (w : World) (hc : chk s = 0) : Calls Tryz.prog 136 #[.string s] w (PartsOkPost s w) := by
  obtain ⟨h1, h2, _, _⟩ := chk_zero hc
  have hq := fun w0 => chk_any s w0 (by omega)
  rw [hc] at hq
  have hal := heap_alloc_new w (.cells #[.slice none 0 0] 163)
  obtain ⟨w0, hw0⟩ : ∃ w0, w0 = w.alloc (.cells #[.slice none 0 0] 163) := ⟨_, rfl⟩
  rw [← hw0] at hal
  have hz0 : w0.heap.size = w.heap.size + 1 := by rw [hw0]; simp
  have hbw : Below w.heap.size w w0 := by rw [hw0]; exact (Below.refl _ _).alloc (Nat.le_refl _) _
  have hpc := fun (w1 : World) (hb : Below w0.heap.size w0 w1) => pcs_parts w.heap.size s w1 (fun w2 l => Below w.heap.size w w2 ∧ w1.heap.size + 1 ≤ w2.heap.size ∧ PartsBox w.heap.size (w1.heap.size + 1) (l.filter isPart) w2) (fun l => true) (by omega)
    (fun w2 w3 l ⟨a1, a2, a3⟩ hm hsz => ⟨a1.trans (hm.below (fun b e => by have := hb.size; omega) a1.size), by omega, a3.mod hm (by have := hb.size; omega) (fun b h => by omega)⟩)
    ⟨(hbw.trans (hb.mono (by omega))).alloc (by have := hb.size; omega) _, by simp, none, 0, (Below.heap_alloc _ _ _ (by have := hb.size; omega)).trans ((hb.block _ (by omega)).trans hal), OwnS.nil _ _, fun g e => by cases e⟩
    (fun w2 l x hl hx hk ⟨a1, a2, a3⟩ => by
      cases hp : isPart x with
      | true =>
        refine (parts1_yes w.heap.size (w1.heap.size + 1) x (l.filter isPart) w2 hp a3 (by have := List.length_filter_le isPart l; omega) a2).mono ?_
        rintro e w3 ⟨rfl, b1, b2⟩
        rw [filter_snoc_yes l hp]
        exact ⟨rfl, ⟨a1.trans (b2.below (fun b e => by have := hb.size; omega) a1.size), Nat.le_trans a2 b2.size, b1⟩, b2.block _ hk (by have := hb.size; omega)⟩
      | false =>
        refine (parts1_no w.heap.size x w2 hp).mono ?_
        rintro e w3 ⟨rfl, rfl⟩
        rw [filter_snoc_no l hp]
        exact ⟨rfl, ⟨a1, a2, a3⟩, rfl⟩)
  have hpre := fun w0 => lib_prefix s ⟨#[47]⟩ w0
  obtain ⟨pb, hpb⟩ : ∃ pb, pb = Lib.hasPrefix s.data.toList [47] := ⟨_, rfl⟩
  have hpre' : ∀ w0, Calls Tryz.prog 154 #[.string s, .string ⟨#[47]⟩] w0 fun e w' => e = .returned (.bool pb) ∧ w' = w0 := fun w0 => by rw [hpb]; exact hpre w0
  unfold PartsOkPost
  rw [← hpb]
  have HQ := Lib.hid hq
  have HW0 := Lib.hid hw0
  have HAL := Lib.hid hal
  have HPC := Lib.hid hpc
  have HPR := Lib.hid hpre'
  clear hq hw0 hal hpc hpre hpre' hpb hc h1
  go_enter Tryz.func136, Tryz.ntmps136
  go_upto_region 1 with (fail)
  rw [← HW0.out]
  go_wp2_with (first
    | (go_at_call 139; refine (HQ.out _).mono ?_; rintro e w1 ⟨rfl, hb1⟩)
    | (go_at_call 152; refine (HPC.out w1 hb1).mono ?_; rintro e w2 ⟨rfl, l, ⟨hb2, hz2, A, cap, hc, hO, hA⟩, hl⟩; have c1 := one_block hc 0; have f1 := one_free hc 0; have HC := Lib.hid hc; have HO := Lib.hid hO; have HA := Lib.hid hA; have HL := Lib.hid hl; clear hc hO hA hl))
  go_region_with
    ((first
      | (go_at_call 154; refine (HPR.out _).mono ?_; rintro e w3 ⟨rfl, rfl⟩)))
  all_goals
    go_wp2_with fail
    have hl2 : l = pieces s := by
      rcases HL.out with e | ⟨r, _, e⟩
      · exact e
      · cases e
    have hset := set_one HC.out (y := .slice A (l.filter isPart).length cap)
    have hm := mod_set (S := fun b => b = w.heap.size) (w := w2) rfl 0 (.slice A (l.filter isPart).length cap)
    have hz := hb2.size
    refine bodyPost_ret (v := .tuple #[.slice A (partsOf s).length cap, .bool pb, .int .i64 0]) (results_partsG rfl rfl rfl (by have h9 := one_block hset 0; have h8 : (partsOf s).length = (l.filter isPart).length := (congrArg (fun z => (List.filter isPart z).length) hl2).symm; rw [h8]; exact h9) rfl) rfl ?_
    refine ⟨A, cap, rfl, ?_, ?_⟩
    · have hO2 : OwnS (w2.setCell ⟨w.heap.size, 0, none⟩ (.slice A (l.filter isPart).length cap)).drew (w1.heap.size + 1) A cap (partsOf s) := by
        unfold partsOf
        rw [← hl2]
        refine OwnS.same HO.out fun g hg => ?_
        rcases (OwnS.form HO.out) with ⟨e, _⟩ | ⟨g', e, k1, k2, _⟩
        · rw [e] at hg; cases hg
        · rw [e] at hg
          injection hg with hg
          injection hg with hg
          subst hg
          have := hb1.size
          exact hm.block _ k2 (by omega)
      exact hO2.lower (by have := hb1.size; omega)
    · exact ((Mod.of hb2).trans (Out.refl _ _) hm.drew).below (S := fun b => b = w.heap.size) (fun b hb => by omega) (Nat.le_refl _)

end Go.Proofs.YtkkmcnngpahfaaaGreatDoor

namespace Go.Proofs.YtkkmcnngpahfaaaGreatDoor
set_option linter.unusedSimpArgs false
set_option linter.unusedVariables false

structure Ent where
  path : ByteArray
  kind : Nat
  mode : Nat
  uid : Nat
  gid : Nat
  n : Nat
  dat : Nat → Nat
  «to» : ByteArray
structure Nd where
  kind : Nat
  mode : Nat
  uid : Nat
  gid : Nat
  n : Nat
  up : Nat
  name : ByteArray
  dat : Nat → Nat
  «to» : ByteArray
def rootNd : Nd := ⟨2, 493, 0, 0, 0, 0, ⟨#[]⟩, fun _ => 0, ⟨#[]⟩⟩

def modeBad (m : Nat) : Bool := bits .andNot .u16 (m : Int) 2559 != 0
def dots (l : List ByteArray) : Bool := l.any fun x => x.data == #[46, 46]
/-- What an entry by itself may not be. -/
def may (e : Ent) : Int :=
  if e.kind < 1 ∨ 3 < e.kind ∨ modeBad e.mode = true then 1
  else if chk e.path ≠ 0 ∨ Lib.hasPrefix e.path.data.toList [47] = false ∨ partsOf e.path = [] ∨ Lib.hasSuffix e.path.data.toList [47] = true ∨ dots (partsOf e.path) = true then 1
  else if (e.kind ≠ 1 ∧ 0 < e.n) ∨ (e.kind ≠ 3 ∧ e.to.size ≠ 0) then 1
  else if e.kind = 3 ∧ chk e.to ≠ 0 then 1
  else if 65536 < e.n then 12 else 0

def kindOf (F : List Nd) (i : Nat) : Nat := match F[i]? with | some y => y.kind | none => 0
/-- The names in a directory, in the order in which they came. -/
def namesOf (F : List Nd) (d : Nat) : List (ByteArray × Nat) :=
  (List.range F.length).filterMap fun i => match F[i]? with | some y => if 0 < i ∧ y.up = d then some (y.name, i) else none | none => none
def lookN (l : List (ByteArray × Nat)) (x : ByteArray) : Option Nat := (l.find? fun y => decide (y.1 = x)).map (·.2)
/-- The node at parts from a node on. -/
def atM (F : List Nd) : Nat → List ByteArray → Option Nat
  | i, [] => some i
  | i, x :: l => if kindOf F i = 2 then (match lookN (namesOf F i) x with | some j => atM F j l | none => none) else none
def newNd (e : Ent) (up : Nat) (x : ByteArray) : Nd := ⟨e.kind, e.mode, e.uid, e.gid, e.n, up, x, e.dat, e.to⟩
def addM (F : List Nd) (e : Ent) : Int × List Nd :=
  if may e ≠ 0 then (may e, F)
  else if (atM F 0 (partsOf e.path)).isSome = true then (7, F)
  else match atM F 0 (partsOf e.path).dropLast with
    | none => (3, F)
    | some up => if kindOf F up ≠ 2 then (8, F) else (0, F ++ [newNd e up ((partsOf e.path).getLastD ⟨#[]⟩)])
/-- What New makes: the error, the number of the entry that may not be, the nodes. -/
def newM (F : List Nd) : Nat → List Ent → Int × Int × List Nd
  | _, [] => (0, 0, F)
  | i, e :: l => if (addM F e).1 ≠ 0 then ((addM F e).1, (i : Int), F) else newM (addM F e).2 (i + 1) l

theorem kindOf_some {F : List Nd} {i : Nat} {y : Nd} (h : F[i]? = some y) : kindOf F i = y.kind := by unfold kindOf; rw [h]
theorem kindOf_snoc {F : List Nd} {i : Nat} (y : Nd) (h : i < F.length) : kindOf (F ++ [y]) i = kindOf F i := by
  unfold kindOf
  rw [List.getElem?_append_left h]
theorem filterMap_same {α β : Type} {f g : α → Option β} : ∀ {l : List α}, (∀ x ∈ l, f x = g x) → l.filterMap f = l.filterMap g
  | [], _ => rfl
  | x :: l, h => by
    rw [List.filterMap_cons, List.filterMap_cons, h x (List.mem_cons_self ..), filterMap_same fun y hy => h y (List.mem_cons_of_mem _ hy)]
theorem namesOf_snoc (F : List Nd) (y : Nd) (d : Nat) (h : 0 < F.length) : namesOf (F ++ [y]) d = namesOf F d ++ if y.up = d then [(y.name, F.length)] else [] := by
  unfold namesOf
  rw [List.length_append, List.length_singleton, List.range_succ, List.filterMap_append]
  congr 1
  · refine filterMap_same fun i hi => ?_
    rw [List.getElem?_append_left (List.mem_range.1 hi)]
  · simp only [List.filterMap_cons, List.filterMap_nil]
    rw [List.getElem?_append_right (Nat.le_refl _)]
    simp only [Nat.sub_self, List.getElem?_cons_zero]
    by_cases hu : y.up = d
    · rw [if_pos hu, if_pos ⟨h, hu⟩]
    · rw [if_neg hu, if_neg (fun e => hu e.2)]
theorem namesOf_mem {F : List Nd} {d : Nat} {x : ByteArray × Nat} (h : x ∈ namesOf F d) : x.2 < F.length ∧ 0 < x.2 ∧ ∃ y, F[x.2]? = some y ∧ y.up = d ∧ y.name = x.1 := by
  unfold namesOf at h
  obtain ⟨i, hi, h2⟩ := List.mem_filterMap.1 h
  have hl := List.mem_range.1 hi
  cases hf : F[i]? with
  | none => rw [hf] at h2; cases h2
  | some y =>
    rw [hf] at h2
    simp only at h2
    split at h2
    · next h3 =>
      injection h2 with h2
      subst h2
      exact ⟨hl, h3.1, y, hf, h3.2, rfl⟩
    · cases h2
theorem lookN_some {l : List (ByteArray × Nat)} {x : ByteArray} {j : Nat} (h : lookN l x = some j) : (x, j) ∈ l := by
  unfold lookN at h
  cases hf : l.find? (fun y => decide (y.1 = x)) with
  | none => rw [hf] at h; cases h
  | some y =>
    rw [hf] at h
    injection h with h
    have h1 := List.mem_of_find?_eq_some hf
    have h2 := List.find?_some hf
    have h3 : y.1 = x := by simpa using h2
    rw [← h3, ← h]
    exact h1
theorem lookN_none {l : List (ByteArray × Nat)} {x : ByteArray} (h : lookN l x = none) : ∀ y ∈ l, y.1 ≠ x := by
  unfold lookN at h
  intro y hy
  have := List.find?_eq_none.1 (by simpa using h : l.find? (fun y => decide (y.1 = x)) = none) y hy
  simpa using this
theorem atM_lt {F : List Nd} (l : List ByteArray) : ∀ {i j : Nat}, i < F.length → atM F i l = some j → j < F.length := by
  induction l with
  | nil => intro i j h1 h2; unfold atM at h2; injection h2 with h2; omega
  | cons x l ih =>
    intro i j h1 h2
    unfold atM at h2
    split at h2
    · split at h2
      · next k hk => exact ih (namesOf_mem (lookN_some hk)).1 h2
      · cases h2
    · cases h2
theorem atM_go {F : List Nd} {i j : Nat} {x : ByteArray} {l : List ByteArray} (h : kindOf F i = 2) (hj : lookN (namesOf F i) x = some j) : atM F i (x :: l) = atM F j l := by
  rw [atM, if_pos h, hj]
theorem atM_no {F : List Nd} {i : Nat} {x : ByteArray} {l : List ByteArray} (h : kindOf F i = 2) (hj : lookN (namesOf F i) x = none) : atM F i (x :: l) = none := by
  rw [atM, if_pos h, hj]
theorem atM_leaf {F : List Nd} {i : Nat} {x : ByteArray} {l : List ByteArray} (h : kindOf F i ≠ 2) : atM F i (x :: l) = none := by
  rw [atM, if_neg h]
theorem atM_snoc {F : List Nd} (l : List ByteArray) (x : ByteArray) : ∀ i, atM F i (l ++ [x]) = match atM F i l with | some u => atM F u [x] | none => none := by
  induction l with
  | nil => intro i; rfl
  | cons y l ih =>
    intro i
    rw [List.cons_append, atM, atM]
    split
    · split
      · exact ih _
      · rfl
    · rfl

/-- What all nodes are. -/
structure NdOk (N : Nat) (y : Nd) : Prop where
  kind : 1 ≤ y.kind ∧ y.kind ≤ 3
  few : y.n ≤ 65536
  up : y.up < N
structure FOk (F : List Nd) : Prop where
  each : ∀ (i : Nat) (y : Nd), F[i]? = some y → NdOk F.length y
  root : ∃ y, F[0]? = some y ∧ y.kind = 2 ∧ y.up = 0
theorem FOk.pos {F : List Nd} (h : FOk F) : 0 < F.length := by
  obtain ⟨y, hy, _⟩ := h.root
  exact (List.getElem?_eq_some_iff.1 hy).1
theorem FOk.start : FOk [rootNd] := ⟨fun i y h => by
  cases i with
  | zero => simp at h; subst h; exact ⟨by decide, by decide, by decide⟩
  | succ i => simp at h, ⟨_, rfl, rfl, rfl⟩⟩
theorem may_zero {e : Ent} (h : may e = 0) : 1 ≤ e.kind ∧ e.kind ≤ 3 ∧ modeBad e.mode = false ∧ chk e.path = 0 ∧ Lib.hasPrefix e.path.data.toList [47] = true ∧ partsOf e.path ≠ [] ∧ Lib.hasSuffix e.path.data.toList [47] = false ∧ dots (partsOf e.path) = false ∧
    (e.kind = 1 ∨ e.n = 0) ∧ (e.kind = 3 ∨ e.to.size = 0) ∧ (e.kind = 3 → chk e.to = 0) ∧ e.n ≤ 65536 := by
  unfold may at h
  split at h
  · cases h
  split at h
  · cases h
  split at h
  · cases h
  split at h
  · cases h
  split at h
  · cases h
  next h1 h2 h3 h4 h5 =>
  have g1 : modeBad e.mode = false := by
    cases hc : modeBad e.mode with
    | false => rfl
    | true => exact absurd (.inr (.inr hc)) h1
  refine ⟨by omega, by omega, g1, ?_, ?_, ?_, ?_, ?_, by omega, by omega, fun hk => ?_, by omega⟩
  · by_cases c : chk e.path = 0
    · exact c
    · exact absurd (.inl c) h2
  · cases hc : Lib.hasPrefix e.path.data.toList [47] with
    | true => rfl
    | false => exact absurd (.inr (.inl hc)) h2
  · intro hc; exact h2 (.inr (.inr (.inl hc)))
  · cases hc : Lib.hasSuffix e.path.data.toList [47] with
    | false => rfl
    | true => exact absurd (.inr (.inr (.inr (.inl hc)))) h2
  · cases hc : dots (partsOf e.path) with
    | false => rfl
    | true => exact absurd (.inr (.inr (.inr (.inr hc)))) h2
  · by_cases c : chk e.to = 0
    · exact c
    · exact absurd ⟨hk, c⟩ h4
theorem addM_ok {F : List Nd} {e : Ent} (h : FOk F) (h0 : (addM F e).1 = 0) : FOk (addM F e).2 ∧ (addM F e).2.length = F.length + 1 ∧ may e = 0 ∧ ∃ up, atM F 0 (partsOf e.path) = none ∧ atM F 0 (partsOf e.path).dropLast = some up ∧ kindOf F up = 2 ∧ up < F.length ∧ (addM F e).2 = F ++ [newNd e up ((partsOf e.path).getLastD ⟨#[]⟩)] := by
  unfold addM at h0 ⊢
  split at h0
  · next hm => exact absurd h0 hm
  next hm =>
  split at h0
  · cases h0
  next ha =>
  rw [if_neg hm, if_neg ha]
  split at h0
  · cases h0
  next up hu =>
  split at h0
  · cases h0
  next hk =>
  rw [hu]
  show FOk (if kindOf F up ≠ 2 then ((8 : Int), F) else (0, F ++ [newNd e up ((partsOf e.path).getLastD ⟨#[]⟩)])).2 ∧ _
  rw [if_neg hk]
  have hm0 : may e = 0 := by omega
  have hul := atM_lt _ h.pos hu
  obtain ⟨m1, m2, _, _, _, _, _, _, _, _, _, m3⟩ := may_zero hm0
  refine ⟨⟨fun i y hy => ?_, ?_⟩, by simp, hm0, up, by simpa using ha, rfl, by omega, hul, rfl⟩
  · rw [List.length_append, List.length_singleton]
    by_cases hi : i < F.length
    · rw [List.getElem?_append_left hi] at hy
      have := h.each i y hy
      exact ⟨this.kind, this.few, by have := this.up; omega⟩
    · rw [List.getElem?_append_right (by omega)] at hy
      have hi2 : i - F.length = 0 := by
        rcases Nat.eq_zero_or_pos (i - F.length) with e0 | e0
        · exact e0
        · rw [List.getElem?_eq_none (by simp; omega)] at hy; cases hy
      rw [hi2] at hy
      simp at hy
      subst hy
      exact ⟨⟨m1, m2⟩, m3, by show up < _; omega⟩
  · obtain ⟨y, hy, hr⟩ := h.root
    exact ⟨y, by rw [List.getElem?_append_left h.pos]; exact hy, hr⟩

end Go.Proofs.YtkkmcnngpahfaaaGreatDoor

namespace Go.Proofs.YtkkmcnngpahfaaaGreatDoor
open Go.RowKit Go.Sort
set_option linter.unusedSimpArgs false
set_option linter.unusedVariables false

def IdxPost (l : List ByteArray) (w : World) (e : Ending) (w' : World) : Prop := ∃ i : Int, e = .returned (.int .i64 i) ∧ w' = w ∧ dots l = decide (0 ≤ i)
theorem dots_at {l : List ByteArray} {k : Nat} {x : ByteArray} (h : l[k]? = some x) (hx : ((ByteArray.mk #[46, 46]).toList == x.toList) = true) : dots l = true := by
  unfold dots
  refine List.any_eq_true.2 ⟨x, List.mem_of_getElem? h, ?_⟩
  have e := eq_of_beq hx
  rw [ByteArray.toList_eq, ByteArray.toList_eq] at e
  rw [beq_iff_eq]
  exact (Array.toList_inj.1 e).symm
theorem dots_not {l : List ByteArray} (h : ∀ k, k < l.length → ∀ x, l[k]? = some x → ((ByteArray.mk #[46, 46]).toList == x.toList) = false) : dots l = false := by
  unfold dots
  rw [List.any_eq_false]
  intro x hx e
  obtain ⟨k, hk, e2⟩ := List.getElem_of_mem hx
  have h1 := h k hk x (by rw [List.getElem?_eq_getElem hk, e2])
  rw [beq_iff_eq] at e
  rw [ByteArray.toList_eq, ByteArray.toList_eq, e] at h1
  simp at h1
set_option maxHeartbeats 1000000 in
theorem index_dots (base cap : Nat) (A : Option Addr) (l : List ByteArray) (w : World) (hO : OwnS w base A cap l) (hfew : l.length < 100000) :
    Calls Tryz.prog 156 #[.slice A l.length cap, .string ⟨#[46, 46]⟩] w (IdxPost l w) := by
  have hform := hO.form
  have HO := Lib.hid hO
  obtain ⟨n, hn⟩ : ∃ n, n = l.length := ⟨_, rfl⟩
  rw [← hn] at hfew hform ⊢
  obtain ⟨s, hs⟩ : ∃ s : ByteArray, s = ⟨#[46, 46]⟩ := ⟨_, rfl⟩
  rw [← hs]
  have HN := Lib.hid hn
  have HS := Lib.hid hs
  clear hO hn hs
  go_enter Tryz.func156, Tryz.ntmps156
  go_wp2_with fail
  go_loop [8] (fun i => ∃ k : Nat, k ≤ n ∧ i = .int .i64 (k : Int) ∧ ∀ j, j < k → ∀ x, l[j]? = some x → (s.toList == x.toList) = false) (fun i => n - (intOf i).toNat)
  case atStart => exact ⟨0, by omega, rfl, fun j hj => by omega⟩
  case round =>
    obtain ⟨k, hk, rfl, hno⟩ := hrel
    have HNO := Lib.hid hno
    clear hno
    by_cases hlt : k < n
    · rcases hform with ⟨_, h2, _⟩ | ⟨g, hA, _, _, hcap⟩
      · exfalso
        have := HN.out
        rw [h2] at this
        simp at this
        omega
      subst hA
      obtain ⟨x, hx⟩ : ∃ x, l[k]? = some x := ⟨_, List.getElem?_eq_getElem (by rw [← HN.out]; exact hlt)⟩
      have c0 : w.cell? ⟨g, k, none⟩ = some (.string x) := OwnS.elem HO.out hx
      have HX := Lib.hid hx
      clear hx
      cases hc : (s.toList == x.toList) with
      | true =>
        have HC := Lib.hid hc
        go_wp2_with fail
        go_ret
        exact ⟨_, rfl, rfl, by rw [dots_at HX.out (by rw [← HS.out]; exact HC.out)]; simp⟩
      | false =>
        have HC := Lib.hid hc
        go_wp2_with fail
        go_round
        case rel =>
          refine ⟨k + 1, by omega, by go_num, fun j hj y hy => ?_⟩
          rcases Nat.lt_succ_iff_lt_or_eq.1 hj with h1 | h1
          · exact HNO.out j h1 y hy
          · subst h1
            rw [HX.out] at hy
            injection hy with hy
            subst hy
            exact HC.out
        case measure => simp [intOf]; omega
    · obtain rfl : k = n := by omega
      go_wp2_with fail
      go_ret
      exact ⟨-1, rfl, rfl, by rw [dots_not (fun j hj y hy => by rw [← HS.out]; exact HNO.out j (by rw [HN.out]; exact hj) y hy)]; rfl⟩
theorem contains_dots (base cap : Nat) (A : Option Addr) (l : List ByteArray) (w : World) (hO : OwnS w base A cap l) (hfew : l.length < 100000) :
    Calls Tryz.prog 138 #[.slice A l.length cap, .string ⟨#[46, 46]⟩] w fun e w' => e = .returned (.bool (dots l)) ∧ w' = w := by
  have hi := Lib.hid (index_dots base cap A l w hO hfew)
  cases hd : dots l
  all_goals
    have HD := Lib.hid hd
    clear hd hO
    go_enter Tryz.func138, Tryz.ntmps138
    go_wp2_with (first
      | (go_at_call 156; refine (hi.out).mono ?_; rintro e w3 ⟨i, rfl, rfl, hdi⟩; rw [HD.out] at hdi; have hdi2 := hdi.symm; clear hdi)
      | fail)
    go_ret
    exact ⟨rfl, rfl⟩

end Go.Proofs.YtkkmcnngpahfaaaGreatDoor

namespace Go.Proofs.YtkkmcnngpahfaaaGreatDoor
open Go.RowKit Go.Sort
set_option linter.unusedSimpArgs false
set_option linter.unusedVariables false

def Ent.val (e : Ent) (A : Option Addr) (c : Nat) : Value := .agg #[.string e.path, .int .u8 (e.kind : Int), .int .u16 (e.mode : Int), .int .u32 (e.uid : Int), .int .u32 (e.gid : Int), .slice A e.n c, .string e.to]
theorem to_empty {t : ByteArray} (h : t.size = 0) : (!t.toList.isEmpty) = false := by
  have e : t = ⟨#[]⟩ := by
    cases t with
    | mk d => exact congrArg ByteArray.mk (Array.eq_empty_of_size_eq_zero h)
  subst e
  rw [ByteArray.toList_eq]; rfl
theorem to_some {t : ByteArray} (h : t.size ≠ 0) : (!t.toList.isEmpty) = true := by
  cases hc : t.toList with
  | nil =>
    exfalso
    apply h
    have h9 : t.data.toList = [] := by rw [← hc]; exact (ByteArray.toList_eq t).symm
    have h8 : t.data.toList.length = 0 := by rw [h9]; rfl
    exact h8
  | cons x l => rfl

theorem may_head {K mr v : Int} {k : Nat} {mb pb tb db : Bool} (hmay : mr = if K < 1 ∨ 3 < K ∨ mb = true then 1 else if pb = false ∨ k = 0 ∨ tb = true ∨ db = true then 1 else v) :
    (mr = 1 ∧ K < 1) ∨ (mr = 1 ∧ ¬ K < 1 ∧ 3 < K) ∨ (mr = 1 ∧ (K = 1 ∨ K = 2 ∨ K = 3) ∧ mb = true) ∨ (mr = 1 ∧ (K = 1 ∨ K = 2 ∨ K = 3) ∧ mb = false ∧ pb = false) ∨ (mr = 1 ∧ (K = 1 ∨ K = 2 ∨ K = 3) ∧ mb = false ∧ pb = true ∧ k = 0) ∨ (mr = 1 ∧ (K = 1 ∨ K = 2 ∨ K = 3) ∧ mb = false ∧ pb = true ∧ k ≠ 0 ∧ tb = true) ∨ (mr = 1 ∧ (K = 1 ∨ K = 2 ∨ K = 3) ∧ mb = false ∧ pb = true ∧ k ≠ 0 ∧ tb = false ∧ db = true) ∨ (mr = v ∧ (K = 1 ∨ K = 2 ∨ K = 3) ∧ mb = false ∧ pb = true ∧ k ≠ 0 ∧ tb = false ∧ db = false) := by
  by_cases h1 : K < 1
  · rw [if_pos (.inl h1)] at hmay; exact .inl ⟨hmay, h1⟩
  by_cases h2 : 3 < K
  · rw [if_pos (.inr (.inl h2))] at hmay; exact .inr (.inl ⟨hmay, h1, h2⟩)
  have hk : K = 1 ∨ K = 2 ∨ K = 3 := by omega
  cases mb with
  | true => rw [if_pos (.inr (.inr rfl))] at hmay; exact .inr (.inr (.inl ⟨hmay, hk, rfl⟩))
  | false =>
    rw [if_neg (by simp [h1, h2])] at hmay
    cases pb with
    | false => rw [if_pos (.inl rfl)] at hmay; exact .inr (.inr (.inr (.inl ⟨hmay, hk, rfl, rfl⟩)))
    | true =>
      by_cases h3 : k = 0
      · rw [if_pos (.inr (.inl h3))] at hmay; exact .inr (.inr (.inr (.inr (.inl ⟨hmay, hk, rfl, rfl, h3⟩))))
      cases tb with
      | true => rw [if_pos (.inr (.inr (.inl rfl)))] at hmay; exact .inr (.inr (.inr (.inr (.inr (.inl ⟨hmay, hk, rfl, rfl, h3, rfl⟩)))))
      | false =>
        cases db with
        | true => rw [if_pos (.inr (.inr (.inr rfl)))] at hmay; exact .inr (.inr (.inr (.inr (.inr (.inr (.inl ⟨hmay, hk, rfl, rfl, h3, rfl, rfl⟩))))))
        | false => rw [if_neg (by simp [h3])] at hmay; exact .inr (.inr (.inr (.inr (.inr (.inr (.inr ⟨hmay, hk, rfl, rfl, h3, rfl, rfl⟩))))))
/-- What an entry comes to, its path being right. -/
theorem may_end {K mr ct : Int} {n s : Nat} (hkk : K = 1 ∨ K = 2 ∨ K = 3) (hmay : mr = if (K ≠ 1 ∧ 0 < n) ∨ (K ≠ 3 ∧ s ≠ 0) then 1 else if K = 3 ∧ ct ≠ 0 then 1 else if 65536 < n then 12 else 0) :
  (K = 1 ∧ s ≠ 0 ∧ mr = 1) ∨ (K = 1 ∧ s = 0 ∧ (65536 : Int) < (n : Int) ∧ mr = 12) ∨ (K = 1 ∧ s = 0 ∧ ¬ (65536 : Int) < (n : Int) ∧ mr = 0) ∨ ((K = 2 ∨ K = 3) ∧ (0 : Int) < (n : Int) ∧ mr = 1) ∨ (K = 2 ∧ n = 0 ∧ s ≠ 0 ∧ mr = 1) ∨ (K = 2 ∧ n = 0 ∧ s = 0 ∧ mr = 0) ∨ (K = 3 ∧ n = 0 ∧ ct ≠ 0 ∧ mr = 1) ∨ (K = 3 ∧ n = 0 ∧ ct = 0 ∧ mr = 0) := by
  by_cases h0 : 0 < n
  · by_cases h1 : K = 1
    · subst h1
      by_cases hs : s = 0
      · rw [if_neg (by omega), if_neg (by omega)] at hmay
        by_cases h : 65536 < n
        · rw [if_pos h] at hmay; exact .inr (.inl ⟨rfl, hs, by omega, hmay⟩)
        · rw [if_neg h] at hmay; exact .inr (.inr (.inl ⟨rfl, hs, by omega, hmay⟩))
      · rw [if_pos (.inr ⟨by decide, hs⟩)] at hmay; exact .inl ⟨rfl, hs, hmay⟩
    · rw [if_pos (.inl ⟨h1, h0⟩)] at hmay
      exact .inr (.inr (.inr (.inl ⟨by omega, by omega, hmay⟩)))
  · obtain rfl : n = 0 := by omega
    rcases hkk with rfl | rfl | rfl
    · by_cases hs : s = 0
      · rw [if_neg (by omega), if_neg (by omega), if_neg (by omega)] at hmay
        exact .inr (.inr (.inl ⟨rfl, hs, by omega, hmay⟩))
      · rw [if_pos (.inr ⟨by decide, hs⟩)] at hmay; exact .inl ⟨rfl, hs, hmay⟩
    · by_cases hs : s = 0
      · rw [if_neg (by omega), if_neg (by omega), if_neg (by omega)] at hmay
        exact .inr (.inr (.inr (.inr (.inr (.inl ⟨rfl, rfl, hs, hmay⟩)))))
      · rw [if_pos (.inr ⟨by decide, hs⟩)] at hmay; exact .inr (.inr (.inr (.inr (.inl ⟨rfl, rfl, hs, hmay⟩))))
    · rw [if_neg (by omega)] at hmay
      by_cases hc : ct = 0
      · rw [if_neg (by omega), if_neg (by omega)] at hmay
        exact .inr (.inr (.inr (.inr (.inr (.inr (.inr ⟨rfl, rfl, hc, hmay⟩))))))
      · rw [if_pos ⟨rfl, hc⟩] at hmay
        exact .inr (.inr (.inr (.inr (.inr (.inr (.inl ⟨rfl, rfl, hc, hmay⟩))))))

theorem OwnS.kept {w w' : World} {base : Nat} {A : Option Addr} {cap : Nat} {l : List ByteArray} (h : OwnS w base A cap l) (hb : Below w.heap.size w w') : OwnS w' base A cap l := h.same fun g hg => by
  rcases h.form with ⟨e, _⟩ | ⟨g', e, _, h2, _⟩
  · rw [e] at hg; cases hg
  · rw [e] at hg; injection hg with hg; injection hg with hg; subst hg; exact hb.block _ h2
def VpPost (mr : Int) (L : List ByteArray) (w : World) (e : Ending) (w' : World) : Prop :=
  ∃ A1 cap1 l, e = .returned (.tuple #[.slice A1 l.length cap1, .int .i64 mr]) ∧ OwnS w' w.heap.size A1 cap1 l ∧ Below w.heap.size w w' ∧ (mr = 0 → l = L) ∧ (mr ≠ 0 → A1 = none ∧ cap1 = 0 ∧ l = [])
set_option maxRecDepth 100000 in
set_option maxHeartbeats 4000000 in
theorem vparts_any (x : Ent) (A : Option Addr) (c : Nat) (w : World) (hp : x.path.size ≤ 1000000000) (ht : x.to.size ≤ 1000000000) (hn : x.n ≤ 9223372036854775807) :
    Calls Tryz.prog 122 #[x.val A c] w (VpPost (may x) (partsOf x.path) w) := by
  obtain ⟨path, kind, mode, uid, gid, n, dat, lk⟩ := x
  simp only at hp ht hn
  obtain ⟨K, hKK⟩ : ∃ K : Int, K = (kind : Int) := ⟨_, rfl⟩
  have hK0 : 0 ≤ K := by omega
  obtain ⟨w0, hw0⟩ : ∃ w0, w0 = w.alloc (.cells #[.string path, .int .u8 K, .int .u16 (mode : Int), .int .u32 (uid : Int), .int .u32 (gid : Int), .slice A n c, .string lk] 106) := ⟨_, rfl⟩
  have hb0 : Below w.heap.size w w0 := by rw [hw0]; exact (Below.refl _ _).alloc (Nat.le_refl _) _
  have hE : w0.heap[w.heap.size]? = some (.cells #[.string path, .int .u8 K, .int .u16 (mode : Int), .int .u32 (uid : Int), .int .u32 (gid : Int), .slice A n c, .string lk] 106 (0, 0)) := by rw [hw0]; exact heap_alloc_new w _
  have hlt0 : w.heap.size < w0.heap.size := (Array.getElem?_eq_some_iff.1 hE).1
  have d0 : w0.cell? ⟨w.heap.size, 0, none⟩ = some (.string path) := one_block hE 0
  have HE := Lib.hid hE
  have HW0 := Lib.hid hw0
  clear hE hw0
  unfold Ent.val
  simp only
  rw [← hKK]
  by_cases hc : chk path = 0
  rotate_left
  · have hmr : may ⟨path, kind, mode, uid, gid, n, dat, lk⟩ = 1 := by
      unfold may
      simp only
      split
      · rfl
      · rw [if_pos (.inl hc)]
    rw [hmr]
    have HPE := Lib.hid (fun W => parts_err path W hp hc)
    have hne : (chk path != 0) = true := by rw [bne_iff_ne]; exact hc
    obtain ⟨r, hr⟩ : ∃ r, r = chk path := ⟨_, rfl⟩
    rw [← hr] at hne HPE
    clear hmr hc hr hKK
    go_enter Tryz.func122, Tryz.ntmps122
    go_upto_region 1 with (fail)
    rw [← HW0.out]
    go_wp2_with (first
      | (go_at_call 136; refine (HPE.out _).mono ?_; rintro e w1 ⟨rfl, hb1⟩; have hE1 := (hb1.block _ hlt0).trans HE.out; have e1 : w1.cell? ⟨w.heap.size, 1, none⟩ = some (.int .u8 K) := one_block hE1 1; have e2 : w1.cell? ⟨w.heap.size, 2, none⟩ = some (.int .u16 (mode : Int)) := one_block hE1 2; have HE1 := Lib.hid hE1; have HB1 := Lib.hid (hb0.trans (hb1.mono hb0.size)); clear hE1 hb1)
      | fail)
    all_goals
      go_ret2
      exact ⟨none, 0, [], rfl, OwnS.nil _ _, HB1.out, (fun e => by cases e), fun _ => ⟨rfl, rfl, rfl⟩⟩
  have hps := chk_zero hc
  have hpt : path.size ≤ 200 := hps.2.1
  obtain ⟨L, hL⟩ : ∃ L, L = partsOf path := ⟨_, rfl⟩
  obtain ⟨k, hk⟩ : ∃ k, k = L.length := ⟨_, rfl⟩
  have hkf : k ≤ 201 := by rw [hk, hL]; have := partsOf_length path; omega
  obtain ⟨pb, hpb⟩ : ∃ pb, pb = Lib.hasPrefix path.data.toList [47] := ⟨_, rfl⟩
  obtain ⟨tb, htb⟩ : ∃ tb, tb = Lib.hasSuffix path.data.toList [47] := ⟨_, rfl⟩
  obtain ⟨db, hdb⟩ : ∃ db, db = dots L := ⟨_, rfl⟩
  obtain ⟨mb, hmb⟩ : ∃ mb, mb = modeBad mode := ⟨_, rfl⟩
  have hpo := fun W => parts_ok path W hc
  unfold PartsOkPost at hpo
  rw [← hL, ← hpb, ← hk] at hpo
  have hta := fun W => tail_any path W (by omega)
  rw [← htb] at hta
  have hcd : ∀ W base A1 cap1, OwnS W base A1 cap1 L → Calls Tryz.prog 138 #[.slice A1 k cap1, .string ⟨#[46, 46]⟩] W fun e w' => e = .returned (.bool db) ∧ w' = W := fun W base A1 cap1 ho => by
    rw [hdb, hk]
    exact contains_dots base cap1 A1 L W ho (by omega)
  obtain ⟨ct, hct⟩ : ∃ ct, ct = chk lk := ⟨_, rfl⟩
  have hch := fun W => chk_any lk W ht
  rw [← hct] at hch
  obtain ⟨mr, hmr⟩ : ∃ mr, mr = may ⟨path, kind, mode, uid, gid, n, dat, lk⟩ := ⟨_, rfl⟩
  rw [← hmr, ← hL]
  have hmay : mr = if K < 1 ∨ 3 < K ∨ mb = true then 1 else if pb = false ∨ k = 0 ∨ tb = true ∨ db = true then 1
      else if (K ≠ 1 ∧ 0 < n) ∨ (K ≠ 3 ∧ lk.size ≠ 0) then 1 else if K = 3 ∧ ct ≠ 0 then 1 else if 65536 < n then 12 else 0 := by
    have i1 : (K < 1) = (kind < 1) := by apply propext; omega
    have i2 : (3 < K) = (3 < kind) := by apply propext; omega
    have i3 : (K = 1) = (kind = 1) := by apply propext; omega
    have i4 : (K = 3) = (kind = 3) := by apply propext; omega
    rw [hmr, hpb, hk, htb, hdb, hct, hL, hmb]
    simp only [i1, i2, i3, i4, ne_eq]
    unfold may
    simp only [hc, ne_eq, not_true_eq_false, false_or, List.length_eq_zero_iff]
  have hmbt : (bits .andNot .u16 (mode : Int) 2559 != 0) = mb := hmb.symm
  have HPO := Lib.hid hpo
  have HTA := Lib.hid hta
  have HCD := Lib.hid hcd
  have HCT := Lib.hid hch
  have HK := Lib.hid hk
  clear hpo hta hch hcd hdb hpb htb hct hmr hk hL hc hps hKK hmb
  rcases may_head hmay with ⟨hv, c1⟩ | ⟨hv, c1, c2⟩ | ⟨hv, hk, rfl⟩ | ⟨hv, hk, rfl, rfl⟩ | ⟨hv, hk, rfl, rfl, rfl⟩ | ⟨hv, hk, rfl, rfl, c5, rfl⟩ | ⟨hv, hk, rfl, rfl, c5, rfl, rfl⟩ | ⟨hv, hk, rfl, rfl, c5, rfl, rfl⟩
  rotate_right
  rcases may_end hk hv with ⟨rfl, t0, hw⟩ | ⟨rfl, t0, hn9, hw⟩ | ⟨rfl, t0, hn9, hw⟩ | ⟨hk23, hn9, hw⟩ | ⟨rfl, rfl, t0, hw⟩ | ⟨rfl, rfl, t0, hw⟩ | ⟨rfl, rfl, t0, hw⟩ | ⟨rfl, rfl, rfl, hw⟩
  rotate_left 3
  rcases hk23 with rfl | rfl
  all_goals
    clear hmay
    first
      | (clear hv; subst hw)
      | (subst hv; have c1 : ¬ K < 1 := by omega
         have c2 : ¬ 3 < K := by omega
         clear hk)
      | subst hv
    first
      | replace t0 := to_some t0
      | replace t0 := to_empty t0
      | (have hct9 : (ct != 0) = true := by rw [bne_iff_ne]; exact t0)
      | skip
    go_enter Tryz.func122, Tryz.ntmps122
    go_upto_region 1 with (fail)
    rw [← HW0.out]
    go_wp2_with (first
      | (go_at_call 136; refine (HPO.out _).mono ?_; rintro e w1 ⟨A1, cap1, rfl, ho1, hb1⟩; have hE1 := (hb1.block _ hlt0).trans HE.out; have e0 : w1.cell? ⟨w.heap.size, 0, none⟩ = some (.string path) := one_block hE1 0; have e1 : w1.cell? ⟨w.heap.size, 1, none⟩ = some (.int .u8 _) := one_block hE1 1; have e2 : w1.cell? ⟨w.heap.size, 2, none⟩ = some (.int .u16 (mode : Int)) := one_block hE1 2; have e5 : w1.cell? ⟨w.heap.size, 5, none⟩ = some (.slice A _ c) := one_block hE1 5; have e6 : w1.cell? ⟨w.heap.size, 6, none⟩ = some (.string lk) := one_block hE1 6; have HE1 := Lib.hid hE1; have HB1 := Lib.hid (hb0.trans (hb1.mono hb0.size)); have HO1 := Lib.hid ho1; clear hE1 hb1 ho1)
      | (go_at_call 137; refine (HTA.out _).mono ?_; rintro e w2 ⟨rfl, rfl⟩)
      | (go_at_call 138; refine (HCD.out _ _ _ _ HO1.out).mono ?_; rintro e w3 ⟨rfl, rfl⟩)
      | (go_at_call 139; refine (HCT.out _).mono ?_; rintro e w4 ⟨rfl, hb4⟩; have hE4 := (hb4.block _ (Array.getElem?_eq_some_iff.1 HE1.out).1).trans HE1.out; have f5 : w4.cell? ⟨w.heap.size, 5, none⟩ = some (.slice A _ c) := one_block hE4 5; have HB4 := Lib.hid (HB1.out.trans (hb4.mono HB1.out.size)); have HO4 := Lib.hid (OwnS.kept HO1.out hb4); clear hb4 hE4)
      | fail)
    all_goals
      go_ret2
      (first
        | exact ⟨none, 0, [], rfl, OwnS.nil _ _, (by first | exact HB4.out | exact HB1.out), (fun e => by cases e), fun _ => ⟨rfl, rfl, rfl⟩⟩
        | exact ⟨A1, cap1, L, HK.out ▸ rfl, (by first | exact OwnS.lower HO4.out hb0.size | exact OwnS.lower HO1.out hb0.size), (by first | exact HB4.out | exact HB1.out), (fun _ => rfl), fun e => absurd rfl e⟩)

end Go.Proofs.YtkkmcnngpahfaaaGreatDoor

namespace Go.Proofs.YtkkmcnngpahfaaaGreatDoor
open Go.RowKit Go.Sort
set_option linter.unusedSimpArgs false
set_option linter.unusedVariables false

/-- The root alone. -/
structure TopAt (w : World) (m d nb fs : Nat) : Prop where
  names : w.heap[m]? = some (.map #[] 0)
  dir : w.heap[d]? = some (.cells #[.int .u8 2, .int .u16 493, .int .u32 0, .int .u32 0, .int .i64 0, .int .i64 0, .pointer (some ⟨d, 0, none⟩), .string ⟨#[]⟩, .map (some m)] 150 (0, 0))
  nodes : w.heap[nb]? = some (.cells #[.iface 143 (.pointer (some ⟨d, 0, none⟩))] 207 (0, 0))
  self : w.heap[fs]? = some (.cells #[.slice (some ⟨nb, 0, none⟩) 1 1] 153 (0, 0))
theorem TopAt.below {w w' : World} {m d nb fs : Nat} (h : TopAt w m d nb fs) (hb : Below w.heap.size w w') : TopAt w' m d nb fs :=
  ⟨(hb.block _ (Array.getElem?_eq_some_iff.1 h.names).1).trans h.names, (hb.block _ (Array.getElem?_eq_some_iff.1 h.dir).1).trans h.dir, (hb.block _ (Array.getElem?_eq_some_iff.1 h.nodes).1).trans h.nodes, (hb.block _ (Array.getElem?_eq_some_iff.1 h.self).1).trans h.self⟩

theorem str_und : Tryz.prog.underlying 9 = some .string := by kernel_rfl
theorem names_none {w : World} {m : Nat} {clk : Nat} (hb : w.heap[m]? = some (.map #[] clk)) (s : ByteArray) :
    (Instr.lookup 148 (.map (some m)) (.string s) true).run Tryz.prog w = .ok (.tuple #[.nilIface, .bool false]) w := by
  have hf : Instr.findNow .string (.string s) ([] : List MapEntry) 0 = some none := rfl
  have hc : (Instr.checkKey true 10000 9 (.string s)).run Tryz.prog w = .ok () w := MapKept.run_checkKey (k := .string s) str_und (by simp [MapKept.IsKey]) true 9999
  have hz : (zeroValue 207).run Tryz.prog w = .ok .nilIface w := by kernel_rfl
  simp [Instr.lookup, run_underlying Tryz.underlying148, MapKept.run_getObj_map hb, hc, MapKept.run_findKey str_und hf, hz, Result.andThen]

theorem assert_dir (v : Value) (w : World) : (Instr.typeAssert (.iface 143 v) 207 143 true).run Tryz.prog w = .ok (.tuple #[v, .bool true]) w := by kernel_rfl
theorem assert_file (v : Value) (w : World) : (Instr.typeAssert (.iface 210 v) 207 210 true).run Tryz.prog w = .ok (.tuple #[v, .bool true]) w := by kernel_rfl

set_option maxRecDepth 100000 in
theorem vat_top (m d nb fs g cap : Nat) (w : World) (h : TopAt w m d nb fs) : Calls Tryz.prog 123 #[.pointer (some ⟨fs, 0, none⟩), .slice (some ⟨g, 0, none⟩) 0 cap] w fun e w' => e = .returned (.iface 143 (.pointer (some ⟨d, 0, none⟩))) ∧ w' = w := by
  have c0 : w.cell? ⟨fs, 0, none⟩ = some (.slice (some ⟨nb, 0, none⟩) 1 1) := one_block h.self 0
  have c1 : w.cell? ⟨nb, 0, none⟩ = some (.iface 143 (.pointer (some ⟨d, 0, none⟩))) := one_block h.nodes 0
  clear h
  go_enter Tryz.func123, Tryz.ntmps123
  go_wp2_with fail
  go_loop [5, 18] (fun n i => n = .iface 143 (.pointer (some ⟨d, 0, none⟩)) ∧ i = .int .i64 0) (fun _ _ => 0)
  case atStart => exact ⟨rfl, rfl⟩
  case round =>
    obtain ⟨rfl, rfl⟩ := hrel
    go_wp2
    go_ret
    exact ⟨rfl, rfl⟩

set_option maxRecDepth 100000 in
theorem vat_miss (m d nb fs g cap : Nat) (w : World) (h : TopAt w m d nb fs) (hc : w.cell? ⟨g, 0, none⟩ = some (.string ⟨#[97]⟩)) : Calls Tryz.prog 123 #[.pointer (some ⟨fs, 0, none⟩), .slice (some ⟨g, 0, none⟩) 1 cap] w fun e w' => e = .returned .nilIface ∧ w' = w := by
  have c0 : w.cell? ⟨fs, 0, none⟩ = some (.slice (some ⟨nb, 0, none⟩) 1 1) := one_block h.self 0
  have c1 : w.cell? ⟨nb, 0, none⟩ = some (.iface 143 (.pointer (some ⟨d, 0, none⟩))) := one_block h.nodes 0
  have c2 : w.cell? ⟨d, 8, none⟩ = some (.map (some m)) := one_block h.dir 8
  have hl := fun s => names_none h.names s
  have had := fun v => assert_dir v w
  clear h
  obtain ⟨s, hs⟩ : ∃ s : ByteArray, s = ⟨#[97]⟩ := ⟨_, rfl⟩
  rw [← hs] at hc
  clear hs
  go_enter Tryz.func123, Tryz.ntmps123
  go_wp2_with fail
  go_loop [5, 18] (fun n i => n = .iface 143 (.pointer (some ⟨d, 0, none⟩)) ∧ i = .int .i64 0) (fun _ _ => 0)
  case atStart => exact ⟨rfl, rfl⟩
  case round =>
    obtain ⟨rfl, rfl⟩ := hrel
    go_wp2
    go_ret
    exact ⟨rfl, rfl⟩

end Go.Proofs.YtkkmcnngpahfaaaGreatDoor

namespace Go.Proofs.YtkkmcnngpahfaaaGreatDoor
open Go.RowKit Go.Sort
set_option linter.unusedSimpArgs false
set_option linter.unusedVariables false

theorem node_info : (Tryz.prog.info? 207).map (fun i => (i.zero, i.size, i.bytes)) = some (some .nilIface, 1, 16) := by kernel_rfl
theorem app_node {w : World} {ops : Array Oper} {rest : List Oper} {o : Oper} {a : Act} {Q : Exit → Act → World → Prop} (hgd : o.guard = none) (s x : Operand)
    (ho : o.op = .call { callee := .builtin .append, args := #[s, x], argTypes := #[151, 151] })
    (A : Option Addr) (cap : Nat) (l : List Value) (hs : a.eval s = .slice A l.length cap) (hown : w.ownsRow 0 207 1 (.slice A l.length cap) l.length l)
    (t : Value) (ht : t.oneCell' = true) (b c : Nat) (hx : a.eval x = .slice (some ⟨b, 0, none⟩) 1 c) (hb : w.heap[b]? = some (.cells #[t] 207 (0, 0)))
    (hfew : l.length < 1000000)
    (h : ∀ g cap' w', w'.ownsRow 0 207 1 (.slice (some ⟨g, 0, none⟩) (l.length + 1) cap') (l.length + 1) (l ++ [t]) → w.grownBy w' (A.map (·.block)) → (A.map (·.block) = some g ∨ g = w.heap.size) → g < w'.heap.size → wpList Tryz.prog ops Q rest (a.put o.dst (.slice (some ⟨g, 0, none⟩) (l.length + 1) cap')) w') :
    wpList Tryz.prog ops Q (o :: rest) a w := by
  obtain ⟨i0, hi0, hz0, hz1, hz2⟩ := info_parts node_info
  refine wpList_append_lies w hgd s x 151 ho 0 207 i0 _ 1 16 Tryz.underlying151 hi0 hz0 hz1 hz2 rfl (by omega) _ l.length l hs hown ⟨b, 0, none⟩ 1 c [t] hx rfl (World.news_of_block (cs := #[t]) hb)
    (by simpa using ht) (by omega) (by unfold maxLen; omega) (by omega) (Nat.zero_le _) w.heap.size rfl ?_
  intro g cap' w' ho' hg hat hlt
  refine h g cap' w' ho' ?_ ?_ hlt
  · cases A <;> simpa [Value.ownBlock] using hg
  · cases A <;> simpa [Value.ownBlock] using hat

/-- One file, "/a", below the root. -/
structure FileAt (w : World) (d x g fs nb c2 cd n : Nat) (dat : Nat → Nat) : Prop where
  self : w.heap[fs]? = some (.cells #[.slice (some ⟨nb, 0, none⟩) 2 c2] 153 (0, 0))
  n0 : w.cell? ⟨nb, 0, none⟩ = some (.iface 143 (.pointer (some ⟨d, 0, none⟩)))
  n1 : w.cell? ⟨nb, 1, none⟩ = some (.iface 210 (.pointer (some ⟨x, 0, none⟩)))
  dir : ∃ m, w.heap[d]? = some (.cells #[.int .u8 2, .int .u16 493, .int .u32 0, .int .u32 0, .int .i64 0, .int .i64 0, .pointer (some ⟨d, 0, none⟩), .string ⟨#[]⟩, .map (some m)] 150 (0, 0))
  file : w.heap[x]? = some (.cells #[.int .u8 1, .int .u16 420, .int .u32 0, .int .u32 0, .int .i64 (n : Int), .int .i64 1, .pointer (some ⟨d, 0, none⟩), .string ⟨#[97]⟩, .slice (some ⟨g, 0, none⟩) n cd] 212 (0, 0))
  data : BytesV w (some ⟨g, 0, none⟩) n dat
  low : nb < w.heap.size ∧ g < w.heap.size
  fits : n ≤ cd
def AddPost (w : World) (m d nb fs n : Nat) (dat : Nat → Nat) (e : Ending) (w' : World) : Prop :=
  e = .returned (.int .i64 0) ∧ ∃ x g nb2 c2 cd, FileAt w' d x g fs nb2 c2 cd n dat ∧ Mod (fun b => b = m ∨ b = nb ∨ b = fs) w w'
theorem add_done {w w3 w4 w6 w7 w8 w9 : World} {m d nb fs n g2 cd g9 c9 : Nat} {dat : Nat → Nat} {o : Obj} (hT : TopAt w m d nb fs) (hbw3 : Below w.heap.size w w3) (hb37 : Below w3.heap.size w3 w7) (hz4 : w3.heap.size ≤ w4.heap.size) (hz6 : w4.heap.size ≤ w6.heap.size) (l3 : w3.heap.size < w4.heap.size)
    (hT7 : TopAt w7 m d nb fs) (hX : w7.heap[w6.heap.size]? = some (.cells #[.int .u8 1, .int .u16 420, .int .u32 0, .int .u32 0, .int .i64 (n : Int), .int .i64 1, .pointer (some ⟨d, 0, none⟩), .string ⟨#[97]⟩, .slice (some ⟨g2, 0, none⟩) n cd] 212 (0, 0)))
    (hO : OwnB w7 w4.heap.size (some ⟨g2, 0, none⟩) cd n dat) (hm1 : Mod (fun b => b = m) w7 w8) (hS9 : w9.heap[fs]? = some (.cells #[.slice (some ⟨nb, 0, none⟩) 1 1] 153 (0, 0)))
    (hg9 : (w8.alloc o).grownBy w9 ((some (⟨nb, 0, none⟩ : Addr)).map (·.block)))
    (ho9 : w9.ownsRow 0 207 1 (.slice (some ⟨g9, 0, none⟩) 2 c9) 2 ([.iface 143 (.pointer (some ⟨d, 0, none⟩))] ++ [.iface 210 (.pointer (some ⟨w6.heap.size, 0, none⟩))]))
    (hat9 : (some (⟨nb, 0, none⟩ : Addr)).map (·.block) = some g9 ∨ g9 = (w8.alloc o).heap.size) :
    AddPost w m d nb fs n dat (.returned (.int .i64 0)) (w9.setCell ⟨fs, 0, none⟩ (.slice (some ⟨g9, 0, none⟩) 2 c9)) := by
  have lfs := (Array.getElem?_eq_some_iff.1 hT.self).1
  have lnb := (Array.getElem?_eq_some_iff.1 hT.nodes).1
  have ld := (Array.getElem?_eq_some_iff.1 hT.dir).1
  have lm := (Array.getElem?_eq_some_iff.1 hT.names).1
  have dm : d ≠ m := fun e => by have h1 := hT.dir; have h2 := hT.names; rw [e, h2] at h1; cases h1
  have df : d ≠ fs := fun e => by have h1 := hT.dir; have h2 := hT.self; rw [e, h2] at h1; simp at h1
  have dn : d ≠ nb := fun e => by have h1 := hT.dir; have h2 := hT.nodes; rw [e, h2] at h1; simp at h1
  have nf : nb ≠ fs := fun e => by have h1 := hT.nodes; have h2 := hT.self; rw [e, h2] at h1; simp at h1
  have hz3 := hbw3.size
  have hz7 := hb37.size
  have hz8 := hm1.size
  have hz9 : w8.heap.size + 1 ≤ w9.heap.size := by simpa using hg9.size
  have hx7 : w6.heap.size < w7.heap.size := (Array.getElem?_eq_some_iff.1 hX).1
  have hgf := OwnB.form hO
  have keep : ∀ b, b < w7.heap.size → b ≠ m → b ≠ nb → b ≠ fs → (w9.setCell ⟨fs, 0, none⟩ (.slice (some ⟨g9, 0, none⟩) 2 c9)).heap[b]? = w7.heap[b]? := by
    intro b hb h1 h2 h3
    refine ((mod_set (S := fun b => b = fs) (w := w9) rfl 0 _).block b (by omega) h3).trans ((hg9.block b (by simp; omega) (by simpa using h2)).trans ((Below.heap_alloc _ _ _ (by omega)).trans (hm1.block b hb h1)))
  have e9 : g9 ≠ fs := by
    rcases hat9 with h | h
    · simp at h; omega
    · simp at h; omega
  have hl9 := ho9.lt g9 rfl
  have hcell : ∀ i, (w9.setCell ⟨fs, 0, none⟩ (.slice (some ⟨g9, 0, none⟩) 2 c9)).cell? ⟨g9, i, none⟩ = w9.cell? ⟨g9, i, none⟩ := fun i => cell_same ((mod_set (S := fun b => b = fs) (w := w9) rfl 0 _).block g9 hl9.2 e9) i
  refine ⟨rfl, w6.heap.size, g2, g9, c9, cd, ⟨set_one hS9, ?_, ?_, ⟨m, (keep d (by omega) dm dn df).trans hT7.dir⟩, (keep _ hx7 (by omega) (by omega) (by omega)).trans hX, ?_, ⟨?_, ?_⟩, ?_⟩, ?_⟩
  · rw [hcell, World.ownsRow.cellAt ho9 0 (by omega)]; rfl
  · rw [hcell, World.ownsRow.cellAt ho9 1 (by omega)]; rfl
  · intro h0
    refine ⟨_, rfl, fun j hj => ?_⟩
    rw [Addr.add_mid, Nat.zero_add, cell_same (keep g2 hgf.2 (by omega) (by omega) (by omega)) j]
    exact OwnB.cell hO hj
  · exact Nat.lt_of_lt_of_le hl9.2 (mod_set (S := fun b => b = fs) (w := w9) rfl 0 _).size
  · exact Nat.lt_of_lt_of_le (by omega : g2 < w9.heap.size) (mod_set (S := fun b => b = fs) (w := w9) rfl 0 _).size
  · rcases hO.2 with ⟨h2, _⟩ | ⟨g', cap', cur, h1, _, _, h4, _⟩
    · injection h2 with h2; cases h2
    · injection h1 with _ _ e3; omega
  · have h1 : Mod (fun b => b = m ∨ b = nb ∨ b = fs) w w7 := Mod.of (hbw3.trans (hb37.mono hz3))
    have h2 : Mod (fun b => b = m ∨ b = nb ∨ b = fs) w7 w8 := hm1.sub fun b hb => .inl hb
    have h3 : Mod (fun b => b = m ∨ b = nb ∨ b = fs) w8 w9 := ⟨hg9.os, hg9.tape, hg9.output, by omega, fun b hb hn => (hg9.block b (by simp; omega) (by simpa using fun e => hn (.inr (.inl e)))).trans (Below.heap_alloc _ _ _ hb)⟩
    exact h1.trans (Out.refl _ _) (h2.trans (Out.refl _ _) (h3.trans (Out.refl _ _) (mod_set (S := fun b => b = m ∨ b = nb ∨ b = fs) (.inr (.inr rfl)) 0 _)))

set_option maxRecDepth 100000 in
set_option maxHeartbeats 4000000 in
theorem vadd_a (m d nb fs n c : Nat) (ad : Addr) (dat : Nat → Nat) (w : World) (h : TopAt w m d nb fs) (hA : BytesV w (some ad) n dat) (had : ad.block < w.heap.size) (hn0 : 0 < n) (hn : n ≤ 65536) :
    Calls Tryz.prog 84 #[.pointer (some ⟨fs, 0, none⟩), entryA (some ad) n c] w (AddPost w m d nb fs n dat) := by
  have htop := h
  obtain ⟨w0, hw0⟩ : ∃ w0, w0 = w.alloc (.cells #[.string ⟨#[47, 97]⟩, .int .u8 1, .int .u16 420, .int .u32 0, .int .u32 0, .slice (some ad) n c, .string ByteArray.empty] 106) := ⟨_, rfl⟩
  have hb0 : Below w.heap.size w w0 := by rw [hw0]; exact (Below.refl _ _).alloc (Nat.le_refl _) _
  have hE : w0.heap[w.heap.size]? = some (.cells #[.string ⟨#[47, 97]⟩, .int .u8 1, .int .u16 420, .int .u32 0, .int .u32 0, .slice (some ad) n c, .string ByteArray.empty] 106 (0, 0)) := by rw [hw0]; exact heap_alloc_new w _
  have had' := had
  have hlt0 : w.heap.size < w0.heap.size := (Array.getElem?_eq_some_iff.1 hE).1
  have hpa := fun W => vparts_a (some ad) n c W hn
  have d0 : w0.cell? ⟨w.heap.size, 0, none⟩ = some (.string ⟨#[47, 97]⟩) := one_block hE 0
  have d1 : w0.cell? ⟨w.heap.size, 1, none⟩ = some (.int .u8 1) := one_block hE 1
  have d2 : w0.cell? ⟨w.heap.size, 2, none⟩ = some (.int .u16 420) := one_block hE 2
  have d3 : w0.cell? ⟨w.heap.size, 3, none⟩ = some (.int .u32 0) := one_block hE 3
  have d4 : w0.cell? ⟨w.heap.size, 4, none⟩ = some (.int .u32 0) := one_block hE 4
  have d5 : w0.cell? ⟨w.heap.size, 5, none⟩ = some (.slice (some ad) n c) := one_block hE 5
  have d6 : w0.cell? ⟨w.heap.size, 6, none⟩ = some (.string ByteArray.empty) := one_block hE 6
  unfold entryA at hpa ⊢
  have HPA := Lib.hid hpa
  have HE := Lib.hid hE
  have HW0 := Lib.hid hw0
  have HT := Lib.hid (h.below hb0)
  have HTOP := Lib.hid htop
  clear hpa hE hw0 h htop
  go_enter Tryz.func84, Tryz.ntmps84
  go_upto_region 1 with (fail)
  rw [← HW0.out]
  go_upto_region 7 with (first
    | (go_at_call 122; refine (HPA.out _).mono ?_; rintro e w1 ⟨g, cap, rfl, hc1, hg1, hg2, hb1⟩; have hasd := fun v => assert_dir v w1; have HT1 := Lib.hid (HT.out.below hb1); have HE1 := Lib.hid ((hb1.block _ hlt0).trans HE.out))
    | (go_at_call 123; refine (vat_miss m d nb fs g cap _ HT1.out hc1).mono ?_; rintro e w2 ⟨rfl, rfl⟩))
  go_upto_region 13 with (first
    | (go_at_call 123; refine (vat_top m d nb fs g cap _ HT1.out).mono ?_; rintro e w3 ⟨rfl, rfl⟩))
  clear d0 d1 d2 d3 d4 d5 d6
  have l1 : fs < w3.heap.size := (Array.getElem?_eq_some_iff.1 HT1.out.self).1
  have l2 : w.heap.size < w3.heap.size := (Array.getElem?_eq_some_iff.1 HE1.out).1
  have e0 : w3.cell? ⟨w.heap.size, 0, none⟩ = some (.string ⟨#[47, 97]⟩) := one_block HE1.out 0
  have e1 : w3.cell? ⟨w.heap.size, 1, none⟩ = some (.int .u8 1) := one_block HE1.out 1
  have e2 : w3.cell? ⟨w.heap.size, 2, none⟩ = some (.int .u16 420) := one_block HE1.out 2
  have e3 : w3.cell? ⟨w.heap.size, 3, none⟩ = some (.int .u32 0) := one_block HE1.out 3
  have e4 : w3.cell? ⟨w.heap.size, 4, none⟩ = some (.int .u32 0) := one_block HE1.out 4
  have e5 : w3.cell? ⟨w.heap.size, 5, none⟩ = some (.slice (some ad) n c) := one_block HE1.out 5
  have e8 : w3.cell? ⟨fs, 0, none⟩ = some (.slice (some ⟨nb, 0, none⟩) 1 1) := one_block HT1.out.self 0
  go_region_held3 (fun w' => w'.cell? ⟨w.heap.size, 1, none⟩ = some (.int .u8 1) ∧ w'.cell? ⟨w.heap.size, 2, none⟩ = some (.int .u16 420) ∧ w'.cell? ⟨w.heap.size, 3, none⟩ = some (.int .u32 0) ∧ w'.cell? ⟨w.heap.size, 4, none⟩ = some (.int .u32 0) ∧ w'.cell? ⟨w.heap.size, 5, none⟩ = some (.slice (some ad) n c) ∧ w'.cell? ⟨fs, 0, none⟩ = some (.slice (some ⟨nb, 0, none⟩) 1 1) ∧ w'.cell? ⟨g, 0, none⟩ = some (.string ⟨#[97]⟩))
    (go_keep)
    (fail)
  go_upto_region 14 with (fail)
  obtain ⟨w4, hw4⟩ : ∃ w4, w4 = (w3.alloc (.cells #[.int .u8 1, .int .u16 420, .int .u32 0, .int .u32 0, .int .i64 (n : Int), .int .i64 1, .pointer (some ⟨d, 0, none⟩), .string ⟨#[97]⟩] 147)).drew := ⟨_, rfl⟩
  rw [← hw4]
  have hB4 : w4.heap[w3.heap.size]? = some (.cells #[.int .u8 1, .int .u16 420, .int .u32 0, .int .u32 0, .int .i64 (n : Int), .int .i64 1, .pointer (some ⟨d, 0, none⟩), .string ⟨#[97]⟩] 147 (0, 0)) := by rw [hw4]; exact heap_alloc_new w3 _
  have hbe4 : Below w3.heap.size w3 w4 := by rw [hw4]; exact ((Below.refl _ _).alloc (Nat.le_refl _) _).drew
  have hz4 := hbe4.size
  have l3 : w3.heap.size < w4.heap.size := (Array.getElem?_eq_some_iff.1 hB4).1
  have hbw3 : Below w.heap.size w w3 := hb0.trans (hb1.mono hb0.size)
  have hz3 := hbw3.size
  have hA4 : ∀ W, Below w4.heap.size w4 W → BytesV W (some ad) n dat := fun W hb => hA.below (hbw3.trans ((hbe4.trans (hb.mono hz4)).mono hz3)) (fun x hx => by injection hx with hx; subst hx; exact had')
  clear e0 e1 e2 e3 e4 e5 e8
  have e1 : w4.cell? ⟨w.heap.size, 1, none⟩ = some (.int .u8 1) := (hbe4.cell l2).trans (one_block HE1.out 1)
  have e5 : w4.cell? ⟨w.heap.size, 5, none⟩ = some (.slice (some ad) n c) := (hbe4.cell l2).trans (one_block HE1.out 5)
  have x0 : w4.cell? ⟨w3.heap.size, 0, none⟩ = some (.int .u8 1) := one_block hB4 0
  have x1 : w4.cell? ⟨w3.heap.size, 1, none⟩ = some (.int .u16 420) := one_block hB4 1
  have x2 : w4.cell? ⟨w3.heap.size, 2, none⟩ = some (.int .u32 0) := one_block hB4 2
  have x3 : w4.cell? ⟨w3.heap.size, 3, none⟩ = some (.int .u32 0) := one_block hB4 3
  have x4 : w4.cell? ⟨w3.heap.size, 4, none⟩ = some (.int .i64 (n : Int)) := one_block hB4 4
  have x5 : w4.cell? ⟨w3.heap.size, 5, none⟩ = some (.int .i64 1) := one_block hB4 5
  have x6 : w4.cell? ⟨w3.heap.size, 6, none⟩ = some (.pointer (some ⟨d, 0, none⟩)) := one_block hB4 6
  have x7 : w4.cell? ⟨w3.heap.size, 7, none⟩ = some (.string ⟨#[97]⟩) := one_block hB4 7
  have HB4 := Lib.hid hB4
  have HBE4 := Lib.hid hbe4
  have HA4 := Lib.hid hA4
  have HBW3 := Lib.hid hbw3
  clear hB4 hbe4 hA4 hbw3 hw4
  go_upto_region 20 with (fail)
  go_region_with
    ((first
      | (go_at_call 124; refine (clone_any n c ad dat _ hn0 (by omega) (HA4.out _ ((Below.refl _ _).drew)) (by have := hz4; have := hz3; show ad.block < w4.heap.size; omega)).mono ?_; rintro e w6 ⟨g2, cd, rfl, ho6, hb6⟩; have hb6' : Below w4.heap.size w4 w6 := ((Below.refl w4.heap.size w4).drew).trans hb6; have y0 := (hb6'.cell (p := ⟨w3.heap.size, 0, none⟩) l3).trans x0; have y1 := (hb6'.cell (p := ⟨w3.heap.size, 1, none⟩) l3).trans x1; have y2 := (hb6'.cell (p := ⟨w3.heap.size, 2, none⟩) l3).trans x2; have y3 := (hb6'.cell (p := ⟨w3.heap.size, 3, none⟩) l3).trans x3; have y4 := (hb6'.cell (p := ⟨w3.heap.size, 4, none⟩) l3).trans x4; have y5 := (hb6'.cell (p := ⟨w3.heap.size, 5, none⟩) l3).trans x5; have y6 := (hb6'.cell (p := ⟨w3.heap.size, 6, none⟩) l3).trans x6; have y7 := (hb6'.cell (p := ⟨w3.heap.size, 7, none⟩) l3).trans x7; have HO6 := Lib.hid ho6; clear ho6 hb6)))
  all_goals
    go_upto_region 21 with (fail)
    obtain ⟨w7, hw7⟩ : ∃ w7, w7 = w6.alloc (.cells #[.int .u8 1, .int .u16 420, .int .u32 0, .int .u32 0, .int .i64 (n : Int), .int .i64 1, .pointer (some ⟨d, 0, none⟩), .string ⟨#[97]⟩, .slice (some ⟨g2, 0, none⟩) n cd] 212) := ⟨_, rfl⟩
    rw [← hw7]
    have hz6 := hb6'.size
    have hX7 : w7.heap[w6.heap.size]? = some (.cells #[.int .u8 1, .int .u16 420, .int .u32 0, .int .u32 0, .int .i64 (n : Int), .int .i64 1, .pointer (some ⟨d, 0, none⟩), .string ⟨#[97]⟩, .slice (some ⟨g2, 0, none⟩) n cd] 212 (0, 0)) := by rw [hw7]; exact heap_alloc_new w6 _
    have hbe7 : Below w4.heap.size w4 w7 := by rw [hw7]; exact hb6'.alloc hz6 _
    have hO7 : OwnB w7 w4.heap.size (some ⟨g2, 0, none⟩) cd n dat := by rw [hw7]; exact World.ownsRow.alloc HO6.out _
    have hb37 : Below w3.heap.size w3 w7 := HBE4.out.trans (hbe7.mono hz4)
    have hT7 := HT1.out.below hb37
    have z1 : w7.cell? ⟨d, 8, none⟩ = some (.map (some m)) := one_block hT7.dir 8
    have z2 : w7.cell? ⟨g, 0, none⟩ = some (.string ⟨#[97]⟩) := (hb37.cell (p := ⟨g, 0, none⟩) hg2).trans hc1
    obtain ⟨w8, hw8⟩ : ∃ w8, w8 = ({ w7.drew with heap := w7.drew.heap.setIfInBounds m (.map #[{ key := .string ⟨#[97]⟩, val := .iface 210 (.pointer (some ⟨w6.heap.size, 0, none⟩)), born := 0 }] (0 + 1)) } : World) := ⟨_, rfl⟩
    have hmu := run_mapUpdate_first (P := Tryz.prog) w7.drew 148 9 207 m 0 ⟨#[97]⟩ (.iface 210 (.pointer (some ⟨w6.heap.size, 0, none⟩))) Tryz.underlying148 str_und hT7.names
    rw [← hw8] at hmu
    have HX7 := Lib.hid hX7
    have HO7 := Lib.hid hO7
    have HT7 := Lib.hid hT7
    have HB37 := Lib.hid hb37
    have HW8 := Lib.hid hw8
    have hz7 : w6.heap.size < w7.heap.size := (Array.getElem?_eq_some_iff.1 hX7).1
    clear hX7 hO7 hT7 hb37 hw8 hw7 x0 x1 x2 x3 x4 x5 x6 x7 y0 y1 y2 y3 y4 y5 y6 y7 e1 e5
    go_region
    all_goals
      have hT8 := HT7.out
      have hm1 : Mod (fun b => b = m) w7 w8 := by
        rw [HW8.out]
        exact ⟨rfl, rfl, rfl, (by simp), fun b hb hne => Array.getElem?_setIfInBounds_ne (fun e => hne e.symm)⟩
      have n1 := hm1.size
      have lfs := (Array.getElem?_eq_some_iff.1 hT8.self).1
      have lnb := (Array.getElem?_eq_some_iff.1 hT8.nodes).1
      have lm := (Array.getElem?_eq_some_iff.1 hT8.names).1
      have nm : nb ≠ m := fun e => by have h1 := hT8.nodes; have h2 := hT8.names; rw [e, h2] at h1; cases h1
      have fm : fs ≠ m := fun e => by have h1 := hT8.self; have h2 := hT8.names; rw [e, h2] at h1; cases h1
      have nf : nb ≠ fs := fun e => by have h1 := hT8.nodes; have h2 := hT8.self; rw [e, h2] at h1; simp at h1
      have s8 := (hm1.block fs lfs fm).trans hT8.self
      have k8 := (hm1.block nb lnb nm).trans hT8.nodes
      have v1 : w8.cell? ⟨fs, 0, none⟩ = some (.slice (some ⟨nb, 0, none⟩) 1 1) := one_block s8 0
      have v2 : w8.frozen? ⟨fs, 0, none⟩ = false := one_free s8 0
      have hown : w8.ownsRow 0 207 1 (.slice (some ⟨nb, 0, none⟩) 1 1) 1 [.iface 143 (.pointer (some ⟨d, 0, none⟩))] := ⟨rfl, .inr ⟨nb, 1, _, rfl, Nat.zero_le _, k8, Nat.le_refl _, by decide, rfl, rfl⟩⟩
      have HS8 := Lib.hid s8
      have HM1 := Lib.hid hm1
      have HOWN := Lib.hid hown
      clear s8 k8 hm1 hown hmu z1 z2 hT8
      go_wp2_with (first
        | (at_builtin; refine app_node rfl (.tmp 102) (.tmp 104) rfl (some ⟨nb, 0, none⟩) 1 [.iface 143 (.pointer (some ⟨d, 0, none⟩))] rfl (World.ownsRow.alloc HOWN.out _) (.iface 210 (.pointer (some ⟨w6.heap.size, 0, none⟩))) rfl w8.heap.size 1 rfl (heap_alloc_new _ _) (by simp) ?_; intro g9 c9 w9 ho9 hg9 hat9 hlt9; have s9 := (hg9.block fs (by simp; omega) (by simpa using fun e => nf (Eq.symm e))).trans ((Below.heap_alloc _ _ _ (by omega)).trans HS8.out); have v3 := one_block s9 0; have v4 := one_free s9 0; have HS9 := Lib.hid s9; have HG9 := Lib.hid hg9; have HO9 := Lib.hid ho9; have HAT9 := Lib.hid hat9; clear s9 hg9 ho9 hat9)
        | fail)
      go_ret
      exact add_done HTOP.out HBW3.out HB37.out hz4 hz6 l3 HT7.out HX7.out HO7.out HM1.out HS9.out HG9.out HO9.out HAT9.out

end Go.Proofs.YtkkmcnngpahfaaaGreatDoor

namespace Go.Proofs.YtkkmcnngpahfaaaGreatDoor
open Go.RowKit Go.Sort
set_option linter.unusedSimpArgs false
set_option linter.unusedVariables false

/-- Files that lie behind block fs. -/
def FilesAt (w : World) (fs n : Nat) (dat : Nat → Nat) : Prop := ∃ d x g nb c2 cd, FileAt w d x g fs nb c2 cd n dat
/-- All of a file system's blocks lie from base on. -/
def FilesIn (w : World) (base fs n : Nat) (dat : Nat → Nat) : Prop := ∃ d x g nb c2 cd, FileAt w d x g fs nb c2 cd n dat ∧ base ≤ d ∧ base ≤ x ∧ base ≤ g ∧ base ≤ nb ∧ base ≤ fs

def VNewPost (w : World) (n : Nat) (dat : Nat → Nat) (e : Ending) (w' : World) : Prop :=
  ∃ fs, e = .returned (.tuple #[.pointer (some ⟨fs, 0, none⟩), .int .i64 0, .int .i64 0]) ∧ FilesAt w' fs n dat ∧ Below w.heap.size w w'
set_option maxRecDepth 100000 in
set_option maxHeartbeats 2000000 in
theorem vnew_a (b n c : Nat) (ad : Addr) (dat : Nat → Nat) (w : World) (hb : w.heap[b]? = some (.cells #[.string ⟨#[47, 97]⟩, .int .u8 1, .int .u16 420, .int .u32 0, .int .u32 0, .slice (some ad) n c, .string ⟨#[]⟩] 106 (0, 0))) (hA : BytesV w (some ad) n dat) (had : ad.block < w.heap.size) (hn0 : 0 < n) (hn : n ≤ 65536) :
    Calls Tryz.prog 23 #[.slice (some ⟨b, 0, none⟩) 1 1] w (VNewPost w n dat) := by
  have hlt := (Array.getElem?_eq_some_iff.1 hb).1
  obtain ⟨w0, hw0⟩ : ∃ w0, w0 = ((((w.alloc (.map #[] 0)).alloc (.cells #[.int .u8 2, .int .u16 493, .int .u32 0, .int .u32 0, .int .i64 0, .int .i64 0, .pointer (some ⟨w.heap.size + 1, 0, none⟩), .string ⟨#[]⟩, .map (some w.heap.size)] 150)).alloc (.cells #[.iface 143 (.pointer (some ⟨w.heap.size + 1, 0, none⟩))] 207)).alloc (.cells #[.slice (some ⟨w.heap.size + 1 + 1, 0, none⟩) 1 1] 153)) := ⟨_, rfl⟩
  have hz0 : w0.heap.size = w.heap.size + 1 + 1 + 1 + 1 := by rw [hw0]; simp
  have hb0 : Below w.heap.size w w0 := by
    rw [hw0]
    exact ((((Below.refl _ _).alloc (Nat.le_refl _) _).alloc (by simp) _).alloc (by simp; omega) _).alloc (by simp; omega) _
  have hT : TopAt w0 w.heap.size (w.heap.size + 1) (w.heap.size + 1 + 1) (w.heap.size + 1 + 1 + 1) := by
    rw [hw0]
    exact ⟨hp0, hp1, hp2, hp3⟩
  have hT0 := Lib.hid hT
  have hA0 := hA.below hb0 (fun x hx => by injection hx with hx; subst hx; exact had)
  have hE0 := (hb0.block b hlt).trans hb
  have e0 : w0.cell? ⟨b, 0, none⟩ = some (.string ⟨#[47, 97]⟩) := one_block hE0 0
  have e1 : w0.cell? ⟨b, 1, none⟩ = some (.int .u8 1) := one_block hE0 1
  have e2 : w0.cell? ⟨b, 2, none⟩ = some (.int .u16 420) := one_block hE0 2
  have e3 : w0.cell? ⟨b, 3, none⟩ = some (.int .u32 0) := one_block hE0 3
  have e4 : w0.cell? ⟨b, 4, none⟩ = some (.int .u32 0) := one_block hE0 4
  have e5 : w0.cell? ⟨b, 5, none⟩ = some (.slice (some ad) n c) := one_block hE0 5
  have e6 : w0.cell? ⟨b, 6, none⟩ = some (.string ⟨#[]⟩) := one_block hE0 6
  have HW0 := Lib.hid hw0
  have HB0 := Lib.hid hb0
  have HA0 := Lib.hid hA0
  have hmm := @run_makeMap Tryz.prog
  clear hb hA hT hA0 hE0 hb0 hw0
  go_enter Tryz.func23, Tryz.ntmps23
  go_upto_region 6 with (fail)
  rw [← HW0.out]
  go_wp2_with fail
  go_loopw [30] (fun i wr => (i = .int .i64 0 ∧ wr = w0) ∨ (i = .int .i64 1 ∧ FilesAt wr (w.heap.size + 1 + 1 + 1) n dat ∧ Below w.heap.size w wr)) (fun i _ => 1 - (intOf i).toNat)
  case atStart => exact .inl ⟨rfl, rfl⟩
  case round =>
    rcases hrel with ⟨rfl, rfl⟩ | ⟨rfl, hF, hbe⟩
    · have hf0 := (Below.refl wr.heap.size wr).alloc (Nat.le_refl _) (.cells #[.string ⟨#[47, 97]⟩, .int .u8 1, .int .u16 420, .int .u32 0, .int .u32 0, .slice (some ad) n c, .string ⟨#[]⟩] 106)
      have hadd := vadd_a w.heap.size (w.heap.size + 1) (w.heap.size + 1 + 1) (w.heap.size + 1 + 1 + 1) n c ad dat _ (hT0.out.below hf0) (HA0.out.below hf0 (fun x hx => by injection hx with hx; subst hx; omega)) (by simp; omega) hn0 hn
      have HADD := Lib.hid hadd
      have HF0 := Lib.hid hf0
      clear hadd hf0
      go_wp2_with (first
        | (go_at_call 84; refine (HADD.out).mono ?_; rintro e w2 ⟨rfl, x, g, nb2, c2, cd, hF2, hm2⟩; have HF2 := Lib.hid hF2; have HM2 := Lib.hid hm2; clear hF2 hm2)
        | fail)
      go_roundw
      case rel =>
        refine .inr ⟨by go_num, ⟨_, _, _, _, _, _, HF2.out⟩, ?_⟩
        exact ((Mod.of (HB0.out.trans (HF0.out.mono (by omega)))).trans (Out.refl _ _) HM2.out).below (fun b hb => by omega) (Nat.le_refl _)
      case measure => simp [intOf]
    · have HF := Lib.hid hF
      clear hF
      go_wp2_with fail
      go_ret3
      exact ⟨_, rfl, HF.out, hbe⟩

end Go.Proofs.YtkkmcnngpahfaaaGreatDoor

namespace Go.Proofs.YtkkmcnngpahfaaaGreatDoor
open Go.RowKit Go.Sort
set_option linter.unusedSimpArgs false
set_option linter.unusedVariables false

def fileDat (i : Nat) : Nat := i / 4096 + 1
def FilePost (w : World) (e : Ending) (w' : World) : Prop := ∃ b g, e = .returned (.slice (some ⟨b, 0, none⟩) 1 1) ∧
  w'.heap[b]? = some (.cells #[.string ⟨#[47, 97]⟩, .int .u8 1, .int .u16 420, .int .u32 0, .int .u32 0, .slice (some ⟨g, 0, none⟩) 8201 8201, .string ⟨#[]⟩] 106 (0, 0)) ∧
  BytesV w' (some ⟨g, 0, none⟩) 8201 fileDat ∧ g < w'.heap.size ∧ Below w.heap.size w w'
set_option maxRecDepth 100000 in
set_option maxHeartbeats 2000000 in
theorem file_any (w : World) : Calls Tryz.prog 24 #[] w (FilePost w) := by
  have hmk := make_bytes 8201 (by omega) w
  obtain ⟨N, hN⟩ : ∃ N : Nat, N = 8201 := ⟨_, rfl⟩
  have h0 : (w.alloc (.cells (rowV 8201 fun _ => .int .u8 0) 5)).heap[w.heap.size]? = some (.cells (rowV N fun j => .int .u8 ((if j < 0 then fileDat j else 0 : Nat) : Int)) 5 (0, 0)) := by
    rw [hN]
    exact heap_alloc_new w _
  have hb0 : Below w.heap.size w (w.alloc (.cells (rowV 8201 fun _ => .int .u8 0) 5)) := (Below.refl _ _).alloc (Nat.le_refl _) _
  obtain ⟨w0, hw0⟩ : ∃ w0, w0 = w.alloc (.cells (rowV 8201 fun _ => .int .u8 0) 5) := ⟨_, rfl⟩
  rw [← hw0] at h0 hb0 hmk
  have HN := Lib.hid hN
  have H0 := Lib.hid h0
  clear hN h0 hw0
  have hmk' : (Instr.makeSlice 99 (.int .i64 8201) (.int .i64 8201)).run Tryz.prog w = .ok (.slice (some ⟨w.heap.size, 0, none⟩) 8201 8201) w0 := hmk
  clear hmk
  go_enter Tryz.func24, Tryz.ntmps24
  go_wp2_with fail
  go_loopw [2] (fun i wr => ∃ k : Nat, i = .int .i64 (k : Int) ∧ k ≤ 8201 ∧ wr.heap[w.heap.size]? = some (.cells (rowV N fun j => .int .u8 ((if j < k then fileDat j else 0 : Nat) : Int)) 5 (0, 0)) ∧ Below w.heap.size w wr) (fun i _ => 8201 - (intOf i).toNat)
  case atStart => exact ⟨0, rfl, by omega, H0.out, hb0⟩
  case round =>
    obtain ⟨k, rfl, hk, hrow, hbe⟩ := hrel
    have HR := Lib.hid hrow
    have HBE := Lib.hid hbe
    clear hrow hbe
    by_cases hlt : k < 8201
    · have c1 : wr.cell? ⟨w.heap.size, k, none⟩ = some (.int .u8 ((if k < k then fileDat k else 0 : Nat) : Int)) := row_cell HR.out (by rw [HN.out]; omega)
      have c2 : wr.frozen? ⟨w.heap.size, k, none⟩ = false := one_free HR.out k
      go_wp2_with fail
      go_roundw
      case rel =>
        refine ⟨k + 1, by go_num, by omega, ?_, Below.setCell HBE.out (show w.heap.size ≤ (⟨w.heap.size, k, none⟩ : Addr).block from Nat.le_refl _) _⟩
        have h1 := Joins.block_setCell (i := k) HR.out (.int .u8 ((k : Int) / 4096 + 1))
        rw [rowV_set] at h1
        rw [h1]
        congr 2
        refine rowV_congr fun j hj => ?_
        by_cases e : j = k
        · subst e
          rw [upd_same, if_pos (by omega)]
          unfold fileDat
          congr 1
        · rw [upd_ne _ _ e]
          by_cases c : j < k
          · rw [if_pos c, if_pos (by omega)]
          · rw [if_neg c, if_neg (by omega)]
      case measure => (simp [intOf]; omega)
    · obtain rfl : k = 8201 := by omega
      have hlt2 := (Array.getElem?_eq_some_iff.1 HR.out).1
      go_wp2_with fail
      go_ret
      have hbe := HBE.out
      have hrow := HR.out
      have hn := HN.out
      subst hn
      have hb2 := (Below.refl wr.heap.size wr).alloc (Nat.le_refl _) (.cells #[.string ⟨#[47, 97]⟩, .int .u8 1, .int .u16 420, .int .u32 0, .int .u32 0, .slice (some ⟨w.heap.size, 0, none⟩) 8201 8201, .string ⟨#[]⟩] 106)
      refine ⟨wr.heap.size, w.heap.size, rfl, heap_alloc_new wr _, ?_, by simp; omega, hbe.alloc hbe.size _⟩
      intro _
      refine ⟨_, rfl, fun j hj => ?_⟩
      rw [Addr.add_mid, Nat.zero_add, hb2.cell hlt2, row_cell hrow hj, if_pos hj]

end Go.Proofs.YtkkmcnngpahfaaaGreatDoor

namespace Go.Proofs.YtkkmcnngpahfaaaGreatDoor
open Go.RowKit Go.Sort Go.ChangeMaps Go.MapKept
set_option linter.unusedSimpArgs false
set_option linter.unusedVariables false

theorem str_inj {a b : ByteArray} (h : Value.string a = Value.string b) : a = b := by
  injection h
/-! ### a directory's names -/
/-- The names in block m; V tells each node's value. -/
def NamesAt (w : World) (m : Nat) (l : List (ByteArray × Nat)) (V : Nat → Value) : Prop :=
  ∃ es clk, w.heap[m]? = some (.map es clk) ∧ Stamped es clk ∧ es.toList.map (fun e => (e.key, e.val)) = l.map fun x => (Value.string x.1, V x.2)
theorem NamesAt.same {w w' : World} {m : Nat} {l : List (ByteArray × Nat)} {V : Nat → Value} (h : NamesAt w m l V) (hb : w'.heap[m]? = w.heap[m]?) : NamesAt w' m l V := by
  obtain ⟨es, clk, h1, h2, h3⟩ := h
  exact ⟨es, clk, hb.trans h1, h2, h3⟩
theorem NamesAt.lt {w : World} {m : Nat} {l : List (ByteArray × Nat)} {V : Nat → Value} (h : NamesAt w m l V) : m < w.heap.size := by
  obtain ⟨es, clk, h1, _⟩ := h
  exact (Array.getElem?_eq_some_iff.1 h1).1
theorem NamesAt.congr {w : World} {m : Nat} {l : List (ByteArray × Nat)} {V V' : Nat → Value} (h : NamesAt w m l V) (hV : ∀ x ∈ l, V' x.2 = V x.2) : NamesAt w m l V' := by
  obtain ⟨es, clk, h1, h2, h3⟩ := h
  refine ⟨es, clk, h1, h2, h3.trans (List.map_congr_left fun x hx => ?_)⟩
  rw [hV x hx]
theorem names_keys {es : Array MapEntry} {l : List (ByteArray × Nat)} {V : Nat → Value} (h : es.toList.map (fun e => (e.key, e.val)) = l.map fun x => (Value.string x.1, V x.2)) : ∀ e ∈ es.toList, ∃ x ∈ l, e.key = .string x.1 ∧ e.val = V x.2 := fun e he => by
  have h1 : (e.key, e.val) ∈ l.map fun x => (Value.string x.1, V x.2) := by rw [← h]; exact List.mem_map.2 ⟨e, he, rfl⟩
  obtain ⟨x, hx, h2⟩ := List.mem_map.1 h1
  exact ⟨x, hx, (congrArg Prod.fst h2).symm, (congrArg Prod.snd h2).symm⟩
theorem names_isKey {es : Array MapEntry} {l : List (ByteArray × Nat)} {V : Nat → Value} (h : es.toList.map (fun e => (e.key, e.val)) = l.map fun x => (Value.string x.1, V x.2)) : ∀ e ∈ es.toList, MapKept.IsKey .string e.key := fun e he => by
  obtain ⟨x, _, h1, _⟩ := names_keys h e he
  rw [h1]
  trivial
theorem names_sole {es : Array MapEntry} {l : List (ByteArray × Nat)} {V : Nat → Value} (hn : (es.toList.map (·.key)).Nodup) (h : es.toList.map (fun e => (e.key, e.val)) = l.map fun x => (Value.string x.1, V x.2)) : (l.map (·.1)).Nodup := by
  have e1 : es.toList.map (·.key) = l.map fun x => Value.string x.1 := by
    have := congrArg (List.map Prod.fst) h
    simpa [Function.comp_def] using this
  rw [e1, List.Nodup, List.pairwise_map] at hn
  rw [List.Nodup, List.pairwise_map]
  exact hn.imp fun hne e => hne (by rw [e])
theorem lookN_mem {l : List (ByteArray × Nat)} (hn : (l.map (·.1)).Nodup) {x : ByteArray × Nat} (hx : x ∈ l) : lookN l x.1 = some x.2 := by
  unfold lookN
  induction l with
  | nil => cases hx
  | cons y l ih =>
    have h1 := List.nodup_cons.1 hn
    rcases List.mem_cons.1 hx with rfl | h2
    · rw [List.find?_cons_of_pos (by simp)]; rfl
    · rw [List.find?_cons_of_neg (by
        intro e
        have e1 : y.1 = x.1 := by simpa using e
        have e2 : x.1 ∈ l.map (·.1) := List.mem_map.2 ⟨x, h2, rfl⟩
        rw [← e1] at e2
        exact h1.1 e2)]
      exact ih h1.2 h2
/-- A look-up of a name. -/
theorem NamesAt.look {w : World} {m : Nat} {l : List (ByteArray × Nat)} {V : Nat → Value} (h : NamesAt w m l V) (s : ByteArray) :
    (Instr.lookup 148 (.map (some m)) (.string s) true).run Tryz.prog w = .ok (match lookN l s with | some j => .tuple #[V j, .bool true] | none => .tuple #[.nilIface, .bool false]) w := by
  obtain ⟨es, clk, h1, h2, h3⟩ := h
  have hc : ∀ b, (Instr.checkKey b 10000 9 (.string s)).run Tryz.prog w = .ok () w := fun b => MapKept.run_checkKey (k := .string s) str_und (by simp [MapKept.IsKey]) b 9999
  have hz : (zeroValue 207).run Tryz.prog w = .ok .nilIface w := by kernel_rfl
  rcases MapKept.findNow_spec (d := .string) (k := .string s) trivial es.toList 0 (names_isKey h3) with ⟨f1, f2⟩ | ⟨j, e, f1, f2, f3⟩
  · have hno : lookN l s = none := by
      cases hc : lookN l s with
      | none => rfl
      | some i =>
        exfalso
        have hm : (Value.string s, V i) ∈ es.toList.map (fun e => (e.key, e.val)) := by rw [h3]; exact List.mem_map.2 ⟨_, lookN_some hc, rfl⟩
        obtain ⟨e, he, h4⟩ := List.mem_map.1 hm
        exact f2 e he (congrArg Prod.fst h4)
    rw [hno]
    simp [Instr.lookup, run_underlying Tryz.underlying148, MapKept.run_getObj_map h1, hc, MapKept.run_findKey str_und f1, hz, Result.andThen]
  · obtain ⟨x, hx, k1, k2⟩ := names_keys h3 e (List.mem_of_getElem? f2)
    have k1 := str_inj (f3.symm.trans k1)
    have hy : lookN l s = some x.2 := by rw [k1]; exact lookN_mem (names_sole h2.2.2 h3) hx
    rw [hy]
    rw [k2] at f1
    clear k1 k2 hy h3 hx f2 f3
    rw [Nat.zero_add] at f1
    show _ = Result.ok (Value.tuple #[V x.2, .bool true]) w
    generalize V x.2 = v at f1 ⊢
    simp [Instr.lookup, run_underlying Tryz.underlying148, MapKept.run_getObj_map h1, hc, MapKept.run_findKey str_und f1, Result.andThen]
/-- A new name. -/
theorem NamesAt.put {w : World} {m : Nat} {l : List (ByteArray × Nat)} {V : Nat → Value} (h : NamesAt w m l V) (s : ByteArray) (j : Nat) (hno : ∀ y ∈ l, y.1 ≠ s) :
    ∃ w', (Instr.mapUpdate 148 (.map (some m)) (.string s) (V j)).run Tryz.prog w = .ok () w' ∧ NamesAt w' m (l ++ [(s, j)]) V ∧ Mod (fun b => b = m) w w' ∧ w'.heap.size = w.heap.size := by
  obtain ⟨es, clk, h1, h2, h3⟩ := h
  have hc : (Instr.checkKey false 10000 9 (.string s)).run Tryz.prog w = .ok () w := MapKept.run_checkKey (k := .string s) str_und (by simp [MapKept.IsKey]) false 9999
  have hne : ∀ e ∈ es.toList, e.key ≠ .string s := fun e he e2 => by
    obtain ⟨x, hx, k1, _⟩ := names_keys h3 e he
    exact hno x hx (str_inj (k1.symm.trans e2))
  rcases MapKept.findNow_spec (d := .string) (k := .string s) trivial es.toList 0 (names_isKey h3) with ⟨f1, f2⟩ | ⟨j', e, f1, f2, f3⟩
  · refine ⟨setBlock w m (.map (es.push ⟨.string s, V j, clk⟩) (clk + 1)), ?_, ⟨_, _, heap_setBlock_same h1 _, MapKept.stamped_push h2 hne, ?_⟩, setBlock_mod, setBlock_size⟩
    · simp [Instr.mapUpdate, run_underlying Tryz.underlying148, MapKept.run_getObj_map h1, hc, MapKept.run_findKey str_und f1, MapKept.run_setObj_map _ h1, Result.andThen, setBlock]
    · rw [Array.toList_push, List.map_append, List.map_append, h3]
      rfl
  · exact absurd f3 (hne e (List.mem_of_getElem? f2))

/-! ### a file system in memory -/
def tyOf (k : Nat) : TypeId := if k = 2 then 143 else if k = 1 then 210 else 213
def nodeV (k a : Nat) : Value := .iface (tyOf k) (.pointer (some ⟨a, 0, none⟩))
/-- A slice as Go has it: nil has no cells. -/
def SliceOk (A : Option Addr) (n c : Nat) : Prop := A = none → n = 0 ∧ c = 0
/-- The node of number i at block a. -/
def NodeAt (w : World) (a i m u : Nat) (y : Nd) : Prop :=
  ∃ T tail, w.heap[a]? = some (.cells #[.int .u8 (y.kind : Int), .int .u16 (y.mode : Int), .int .u32 (y.uid : Int), .int .u32 (y.gid : Int), .int .i64 (y.n : Int), .int .i64 (i : Int), .pointer (some ⟨u, 0, none⟩), .string y.name, tail] T (0, 0)) ∧
    (y.kind = 2 → T = 150 ∧ tail = .map (some m)) ∧
    (y.kind = 1 → T = 212 ∧ ∃ A cd, tail = .slice A y.n cd ∧ BytesV w A y.n y.dat ∧ (∀ x, A = some x → ∃ g cs f, x = ⟨g, 0, none⟩ ∧ w.heap[g]? = some (.cells cs 5 f)) ∧ y.n ≤ cd ∧ SliceOk A y.n cd) ∧
    (y.kind = 3 → T = 215 ∧ tail = .string y.to)
structure FsIs (w : World) (B fs nb c2 : Nat) (ad mp : Nat → Nat) (F : List Nd) : Prop where
  ok : FOk F
  self : w.heap[fs]? = some (.cells #[.slice (some ⟨nb, 0, none⟩) F.length c2] 153 (0, 0))
  row : w.ownsRow 0 207 1 (.slice (some ⟨nb, 0, none⟩) F.length c2) F.length ((List.range F.length).map fun i => nodeV (kindOf F i) (ad i))
  node : ∀ (i : Nat) (y : Nd), F[i]? = some y → NodeAt w (ad i) i (mp i) (ad y.up) y
  names : ∀ i, kindOf F i = 2 → NamesAt w (mp i) (namesOf F i) (fun j => nodeV (kindOf F j) (ad j))
  sole : ∀ i j, kindOf F i = 2 → kindOf F j = 2 → mp i = mp j → i = j
  base : B ≤ fs ∧ B ≤ nb ∧ (∀ i, i < F.length → B ≤ ad i) ∧ ∀ i, kindOf F i = 2 → B ≤ mp i
theorem kindOf_lt {F : List Nd} {i k : Nat} (h : kindOf F i = k) (hk : k ≠ 0) : i < F.length := by
  unfold kindOf at h
  cases hf : F[i]? with
  | none => rw [hf] at h; exact absurd h.symm hk
  | some y => exact (List.getElem?_eq_some_iff.1 hf).1
theorem kindOf_get {F : List Nd} {i : Nat} (h : i < F.length) : ∃ y, F[i]? = some y ∧ kindOf F i = y.kind := ⟨F[i], List.getElem?_eq_getElem h, by unfold kindOf; rw [List.getElem?_eq_getElem h]⟩
theorem FsIs.cell {w : World} {B fs nb c2 : Nat} {ad mp : Nat → Nat} {F : List Nd} (h : FsIs w B fs nb c2 ad mp F) {i : Nat} (hi : i < F.length) : w.cell? ⟨nb, i, none⟩ = some (nodeV (kindOf F i) (ad i)) := by
  rw [World.ownsRow.cellAt h.row i (by omega)]
  simp [hi]
theorem FsIs.mapCell {w : World} {B fs nb c2 : Nat} {ad mp : Nat → Nat} {F : List Nd} (h : FsIs w B fs nb c2 ad mp F) {i : Nat} (hk : kindOf F i = 2) : w.cell? ⟨ad i, 8, none⟩ = some (.map (some (mp i))) := by
  obtain ⟨y, hy, hky⟩ := kindOf_get (kindOf_lt hk (by omega))
  obtain ⟨T, tail, hb, h2, _⟩ := h.node i y hy
  rw [(h2 (hky ▸ hk)).2] at hb
  exact one_block hb 8

theorem assert_d0 (v : Value) (w : World) : (Instr.typeAssert (.iface 210 v) 207 143 true).run Tryz.prog w = .ok (.tuple #[.pointer none, .bool false]) w := by kernel_rfl
theorem assert_d1 (v : Value) (w : World) : (Instr.typeAssert (.iface 213 v) 207 143 true).run Tryz.prog w = .ok (.tuple #[.pointer none, .bool false]) w := by kernel_rfl
theorem assert_node (k a : Nat) (w : World) : (Instr.typeAssert (nodeV k a) 207 143 true).run Tryz.prog w = .ok (.tuple #[if k = 2 then .pointer (some ⟨a, 0, none⟩) else .pointer none, .bool (decide (k = 2))]) w := by
  unfold nodeV tyOf
  by_cases h2 : k = 2
  · subst h2
    exact assert_dir _ w
  · rw [if_neg h2, if_neg h2, decide_eq_false h2]
    by_cases h1 : k = 1
    · subst h1
      exact assert_d0 _ w
    · rw [if_neg h1]
      exact assert_d1 _ w

def atV (F : List Nd) (ad : Nat → Nat) (o : Option Nat) : Value := match o with | some j => nodeV (kindOf F j) (ad j) | none => .nilIface
/-- A row of texts. -/
def StrsV (w : World) (A : Option Addr) (l : List ByteArray) : Prop := ∀ (j : Nat) (x : ByteArray), l[j]? = some x → ∃ g, A = some ⟨g, 0, none⟩ ∧ w.cell? ⟨g, j, none⟩ = some (.string x)
set_option maxRecDepth 100000 in
set_option maxHeartbeats 1000000 in
theorem vat_any (B fs nb c2 n cap : Nat) (ad mp : Nat → Nat) (F : List Nd) (A : Option Addr) (l : List ByteArray) (w : World) (h : FsIs w B fs nb c2 ad mp F) (hl : StrsV w A l) (hn : n = l.length) (hcap : n ≤ cap) (hfew : n ≤ 1000000) (hF : F.length ≤ 1000000) :
    Calls Tryz.prog 123 #[.pointer (some ⟨fs, 0, none⟩), .slice A n cap] w fun e w' => e = .returned (atV F ad (atM F 0 l)) ∧ w' = w := by
  have hpos := h.ok.pos
  have c0 : w.cell? ⟨fs, 0, none⟩ = some (.slice (some ⟨nb, 0, none⟩) F.length c2) := one_block h.self 0
  have c1 : w.cell? ⟨nb, 0, none⟩ = some (nodeV (kindOf F 0) (ad 0)) := h.cell hpos
  obtain ⟨v0, hv0⟩ : ∃ v0, v0 = nodeV (kindOf F 0) (ad 0) := ⟨_, rfl⟩
  rw [← hv0] at c1
  obtain ⟨N, hN⟩ : ∃ N, N = F.length := ⟨_, rfl⟩
  rw [← hN] at c0
  have hpos' : (0 : Int) < (N : Int) := by omega
  obtain ⟨res, hres⟩ : ∃ res, res = atV F ad (atM F 0 l) := ⟨_, rfl⟩
  rw [← hres]
  have HRES := Lib.hid hres
  have HV0 := Lib.hid hv0
  have HH := Lib.hid h
  have HL := Lib.hid hl
  have HN := Lib.hid hn
  have HNF := Lib.hid hN
  clear h hl hn hv0 hN hpos hres
  go_enter Tryz.func123, Tryz.ntmps123
  go_wp2_with fail
  go_loop [5, 18] (fun v i => ∃ k x, k ≤ n ∧ x < F.length ∧ i = .int .i64 ((k : Nat) : Int) ∧ v = nodeV (kindOf F x) (ad x) ∧ atM F x (l.drop k) = atM F 0 l) (fun _ i => n - (intOf i).toNat)
  case atStart => exact ⟨0, 0, by omega, by rw [← HNF.out]; omega, rfl, HV0.out, rfl⟩
  case round =>
    obtain ⟨k, x, hk, hx, rfl, rfl, hat⟩ := hrel
    have HAT := Lib.hid hat
    clear hat
    by_cases hlt : k < n
    · obtain ⟨s, hs⟩ : ∃ s, l[k]? = some s := ⟨_, List.getElem?_eq_getElem (by rw [← HN.out]; exact hlt)⟩
      obtain ⟨g, rfl, hc⟩ := HL.out k s hs
      have hdrop : l.drop k = s :: l.drop (k + 1) := List.drop_eq_getElem_cons (by rw [← HN.out]; exact hlt) |>.trans (by
        obtain ⟨h1, h2⟩ := List.getElem?_eq_some_iff.1 hs
        rw [h2])
      have HDR := Lib.hid hdrop
      have had := assert_node (kindOf F x) (ad x) w
      by_cases hd : kindOf F x = 2
      · rw [if_pos hd, decide_eq_true hd] at had
        have hm := HH.out.mapCell hd
        have hlk := (HH.out.names x hd).look s
        obtain ⟨v, hv⟩ : ∃ v, v = nodeV (kindOf F x) (ad x) := ⟨_, rfl⟩
        rw [← hv] at had ⊢
        cases hj : lookN (namesOf F x) s with
        | some j =>
          rw [hj] at hlk
          have HAT2 := Lib.hid (show atM F j (l.drop (k + 1)) = atM F 0 l by rw [← HAT.out, HDR.out, atM_go hd hj])
          have hjl := (namesOf_mem (lookN_some hj)).1
          obtain ⟨v2, hv2⟩ : ∃ v2, v2 = nodeV (kindOf F j) (ad j) := ⟨_, rfl⟩
          simp only at hlk
          rw [← hv2] at hlk
          have HV2 := Lib.hid hv2
          clear hv hdrop hs hd hj hv2
          go_wp2_with fail
          go_round
          case rel => exact ⟨k + 1, j, by omega, hjl, by go_num, HV2.out, HAT2.out⟩
          case measure => simp [intOf]; omega
        | none =>
          rw [hj] at hlk
          have HR := Lib.hid (show res = .nilIface by rw [HRES.out, ← HAT.out, HDR.out, atM_no hd hj]; rfl)
          simp only at hlk
          clear hv hdrop hs hd hj
          go_wp2_with fail
          go_ret
          exact ⟨by rw [HR.out]; rfl, rfl⟩
      · rw [if_neg hd, decide_eq_false hd] at had
        have HR := Lib.hid (show res = .nilIface by rw [HRES.out, ← HAT.out, HDR.out, atM_leaf hd]; rfl)
        obtain ⟨v, hv⟩ : ∃ v, v = nodeV (kindOf F x) (ad x) := ⟨_, rfl⟩
        rw [← hv] at had ⊢
        clear hv hdrop hs hd
        go_wp2_with fail
        go_ret
        exact ⟨by rw [HR.out]; rfl, rfl⟩
    · obtain rfl : k = n := by omega
      obtain ⟨v, hv⟩ : ∃ v, v = nodeV (kindOf F x) (ad x) := ⟨_, rfl⟩
      have HR := Lib.hid (show res = v by rw [HRES.out, ← HAT.out, List.drop_of_length_le (by rw [HN.out]; exact Nat.le_refl _), hv]; rfl)
      rw [← hv]
      clear hv
      go_wp2_with fail
      go_ret
      exact ⟨by rw [HR.out]; rfl, rfl⟩

end Go.Proofs.YtkkmcnngpahfaaaGreatDoor

namespace Go.Proofs.YtkkmcnngpahfaaaGreatDoor
open Go.RowKit Go.Sort
set_option linter.unusedSimpArgs false
set_option linter.unusedVariables false

theorem cell_int_not_map {w : World} {b j : Nat} {v : Value} {es : Array MapEntry} {clk : Nat} (h : w.cell? ⟨b, j, none⟩ = some v) (hm : w.heap[b]? = some (.map es clk)) : False := by
  simp [World.cell?, hm] at h
theorem NodeAt.keep {w w' : World} {a i m u : Nat} {y : Nd} (h : NodeAt w a i m u y) (hb : w'.heap[a]? = w.heap[a]?) (hz : w.heap.size ≤ w'.heap.size) (hd : ∀ (g : Nat) (cs : Array Value) (f : Nat × Nat), w.heap[g]? = some (.cells cs 5 f) → w'.heap[g]? = w.heap[g]?) : NodeAt w' a i m u y := by
  obtain ⟨T, tail, h1, h2, h3, h4⟩ := h
  refine ⟨T, tail, hb.trans h1, h2, fun hk => ?_, h4⟩
  obtain ⟨hT, A, cd, e1, e2, e3, e4⟩ := h3 hk
  refine ⟨hT, A, cd, e1, fun h0 => ?_, fun x hx => ?_, e4⟩
  · obtain ⟨x, hx, hc⟩ := e2 h0
    obtain ⟨g, cs, f, rfl, hg⟩ := e3 x hx
    refine ⟨_, hx, fun j hj => ?_⟩
    have h9 := hc j hj
    rw [Addr.add_mid, Nat.zero_add] at h9 ⊢
    rw [← h9]
    exact World.cell?_of_block (hd g cs f hg)
  · obtain ⟨g, cs, f, hg, hl⟩ := e3 x hx
    exact ⟨g, cs, f, hg, (hd g cs f hl).trans hl⟩
theorem NodeAt.lt {w : World} {a i m u : Nat} {y : Nd} (h : NodeAt w a i m u y) : a < w.heap.size := by
  obtain ⟨T, tail, h1, _⟩ := h
  exact (Array.getElem?_eq_some_iff.1 h1).1
theorem byte_lt {w : World} {g j : Nat} {v : Value} (h : w.cell? ⟨g, j, none⟩ = some v) : g < w.heap.size := World.block_lt_of_cell? _ _ h
theorem row_block {w : World} {nb n cap : Nat} {T : TypeId} {xs : List Value} (h : w.ownsRow 0 T 1 (.slice (some ⟨nb, 0, none⟩) n cap) n xs) : ∃ cur, w.heap[nb]? = some (.cells cur T (0, 0)) ∧ n ≤ cap ∧ cap ≤ maxLen ∧ cur.size = cap * 1 ∧ cur.toList.take (n * 1) = xs := by
  rcases h.2 with ⟨h2, _⟩ | ⟨g, cap', cur, h1, _, h3, h4, h5, h6, h7⟩
  · injection h2 with h2; cases h2
  · injection h1 with e1 e2 e3
    injection e1 with e1
    injection e1 with e1
    subst e1 e3
    exact ⟨cur, h3, h4, h5, h6, h7⟩
theorem row_same {w w' : World} {nb n cap : Nat} {T : TypeId} {xs : List Value} (h : w.ownsRow 0 T 1 (.slice (some ⟨nb, 0, none⟩) n cap) n xs) (hb : w'.heap[nb]? = w.heap[nb]?) : w'.ownsRow 0 T 1 (.slice (some ⟨nb, 0, none⟩) n cap) n xs := by
  obtain ⟨cur, h1, h2, h3, h4, h5⟩ := row_block h
  exact ⟨h.1, .inr ⟨nb, cap, cur, rfl, Nat.zero_le _, hb.trans h1, h2, h3, h4, h5⟩⟩
theorem row_lt {w : World} {nb n cap : Nat} {T : TypeId} {xs : List Value} (h : w.ownsRow 0 T 1 (.slice (some ⟨nb, 0, none⟩) n cap) n xs) : nb < w.heap.size := by
  obtain ⟨cur, h1, _⟩ := row_block h
  exact (Array.getElem?_eq_some_iff.1 h1).1
theorem FsIs.below {w w' : World} {B fs nb c2 : Nat} {ad mp : Nat → Nat} {F : List Nd} (h : FsIs w B fs nb c2 ad mp F) (hb : Below w.heap.size w w') : FsIs w' B fs nb c2 ad mp F :=
  ⟨h.ok, (hb.block fs (Array.getElem?_eq_some_iff.1 h.self).1).trans h.self, row_same h.row (hb.block _ (row_lt h.row)), fun i y hy => (h.node i y hy).keep (hb.block _ (h.node i y hy).lt) hb.size fun g cs f hc => hb.block g (Array.getElem?_eq_some_iff.1 hc).1,
    fun i hk => (h.names i hk).same (hb.block _ (h.names i hk).lt), h.sole, h.base⟩

theorem NodeAt.apart {w : World} {a i m u b : Nat} {y : Nd} (h : NodeAt w a i m u y) (hk : 1 ≤ y.kind ∧ y.kind ≤ 3) (hb : (∃ es clk, w.heap[b]? = some (.map es clk)) ∨ (∃ cs f, w.heap[b]? = some (.cells cs 207 f)) ∨ ∃ cs f, w.heap[b]? = some (.cells cs 153 f)) : a ≠ b := by
  intro e
  subst e
  obtain ⟨T, tail, h1, h2, h3, h4⟩ := h
  have hT : T ≠ 207 ∧ T ≠ 153 := by
    rcases (by omega : y.kind = 1 ∨ y.kind = 2 ∨ y.kind = 3) with e | e | e
    · rw [(h3 e).1]; decide
    · rw [(h2 e).1]; decide
    · rw [(h4 e).1]; decide
  rcases hb with ⟨es, clk, e⟩ | ⟨cs, f, e⟩ | ⟨cs, f, e⟩
  · rw [h1] at e; cases e
  · rw [h1] at e; injection e with e; injection e with _ e _; exact hT.1 e
  · rw [h1] at e; injection e with e; injection e with _ e _; exact hT.2 e

theorem namesOf_none {F : List Nd} (h : FOk F) {d : Nat} (hd : F.length ≤ d) : namesOf F d = [] := by
  cases hc : namesOf F d with
  | nil => rfl
  | cons x l =>
    exfalso
    obtain ⟨_, _, y, hy, hu, _⟩ := namesOf_mem (F := F) (d := d) (x := x) (by rw [hc]; exact List.mem_cons_self ..)
    have := (h.each _ y hy).up
    omega
theorem FsIs.mapBlock {w : World} {B fs nb c2 : Nat} {ad mp : Nat → Nat} {F : List Nd} (h : FsIs w B fs nb c2 ad mp F) {i : Nat} (hk : kindOf F i = 2) : ∃ es clk, w.heap[mp i]? = some (.map es clk) := by
  obtain ⟨es, clk, h1, _⟩ := h.names i hk
  exact ⟨es, clk, h1⟩
theorem FsIs.rowBlock {w : World} {B fs nb c2 : Nat} {ad mp : Nat → Nat} {F : List Nd} (h : FsIs w B fs nb c2 ad mp F) : ∃ cs f, w.heap[nb]? = some (.cells cs 207 f) := by
  obtain ⟨cur, h1, _⟩ := row_block h.row
  exact ⟨cur, _, h1⟩

/-- A file system to which a node was added: its map turned, its row grown. -/
theorem fs_added {w7 w8 w9 : World} {B fs nb c2 a m' up g9 c9 : Nat} {ad mp : Nat → Nat} {F : List Nd} {y : Nd} {o : Obj} (hF : FsIs w7 B fs nb c2 ad mp F) (hy : y.up = up) (hup : up < F.length) (hku : kindOf F up = 2) (hok : FOk (F ++ [y]))
    (hN : NodeAt w7 a F.length m' (ad up) y) (hfs : a ≠ fs) (hnb : a ≠ nb) (haB : B ≤ a) (hm : y.kind = 2 → (∃ clk, w7.heap[m']? = some (.map #[] clk)) ∧ B ≤ m' ∧ ∀ i, kindOf F i = 2 → m' ≠ mp i)
    (h8 : NamesAt w8 (mp up) (namesOf F up ++ [(y.name, F.length)]) (fun j => nodeV (kindOf (F ++ [y]) j) (upd ad F.length a j))) (hm8 : Mod (fun b => b = mp up) w7 w8)
    (hg9 : (w8.alloc o).grownBy w9 (some nb)) (ho9 : w9.ownsRow 0 207 1 (.slice (some ⟨g9, 0, none⟩) (F.length + 1) c9) (F.length + 1) (((List.range F.length).map fun i => nodeV (kindOf F i) (ad i)) ++ [nodeV y.kind a])) (hat : some nb = some g9 ∨ g9 = (w8.alloc o).heap.size) :
    FsIs (w9.setCell ⟨fs, 0, none⟩ (.slice (some ⟨g9, 0, none⟩) (F.length + 1) c9)) B fs g9 c9 (upd ad F.length a) (upd mp F.length m') (F ++ [y]) ∧ Below B w7 (w9.setCell ⟨fs, 0, none⟩ (.slice (some ⟨g9, 0, none⟩) (F.length + 1) c9)) := by
  have hpos := hF.ok.pos
  have hlen : (F ++ [y]).length = F.length + 1 := by rw [List.length_append, List.length_singleton]
  obtain ⟨es1, clk1, hmb⟩ := hF.mapBlock hku
  obtain ⟨cs1, f1, hnbB⟩ := hF.rowBlock
  have hfsB := hF.self
  have lm := (Array.getElem?_eq_some_iff.1 hmb).1
  have lnb := (Array.getElem?_eq_some_iff.1 hnbB).1
  have lfs := (Array.getElem?_eq_some_iff.1 hfsB).1
  have d1 : mp up ≠ nb := fun e => by rw [e, hnbB] at hmb; cases hmb
  have d2 : mp up ≠ fs := fun e => by rw [e, hfsB] at hmb; cases hmb
  have d3 : nb ≠ fs := fun e => by rw [e, hfsB] at hnbB; injection hnbB with e1; injection e1 with _ e2 _; exact absurd e2 (by decide)
  have hz8 := hm8.size
  have hz9 : w8.heap.size + 1 ≤ w9.heap.size := by simpa using hg9.size
  have hz10 : (w9.setCell ⟨fs, 0, none⟩ (.slice (some ⟨g9, 0, none⟩) (F.length + 1) c9)).heap.size = w9.heap.size := by simp
  have hm10 := mod_set (S := fun b => b = fs) (w := w9) (b := fs) rfl 0 (.slice (some ⟨g9, 0, none⟩) (F.length + 1) c9)
  have hl9 := (ho9.lt g9 rfl).2
  have hgfs : g9 ≠ fs := by
    rcases hat with h | h
    · injection h with h; omega
    · simp at h; omega
  have hgB : B ≤ g9 := by
    have := hF.base
    rcases hat with h | h
    · injection h with h; omega
    · simp at h; omega
  generalize hw10 : w9.setCell ⟨fs, 0, none⟩ (.slice (some ⟨g9, 0, none⟩) (F.length + 1) c9) = w10 at hz10 hm10 ⊢
  have keep89 : ∀ b, b < w8.heap.size → b ≠ nb → b ≠ fs → w10.heap[b]? = w8.heap[b]? := fun b hb h1 h2 =>
    (hm10.block b (by omega) h2).trans ((hg9.block b (by simp; omega) (fun e => h1 (by injection e))).trans (Below.heap_alloc _ _ _ hb))
  have keep : ∀ b, b < w7.heap.size → b ≠ mp up → b ≠ nb → b ≠ fs → w10.heap[b]? = w7.heap[b]? := fun b hb h1 h2 h3 => (keep89 b (by omega) h2 h3).trans (hm8.block b hb h1)
  have keepD : ∀ (g : Nat) (cs : Array Value) (f : Nat × Nat), w7.heap[g]? = some (.cells cs 5 f) → w10.heap[g]? = w7.heap[g]? := fun g cs f hc => by
    refine keep g (Array.getElem?_eq_some_iff.1 hc).1 (fun e => ?_) (fun e => ?_) (fun e => ?_)
    · subst e; rw [hmb] at hc; cases hc
    · subst e; rw [hnbB] at hc; injection hc with e1; injection e1 with _ e2 _; exact absurd e2 (by decide)
    · subst e; rw [hfsB] at hc; injection hc with e1; injection e1 with _ e2 _; exact absurd e2 (by decide)
  have kindN : ∀ i, i < F.length → kindOf (F ++ [y]) i = kindOf F i := fun i hi => kindOf_snoc y (by omega)
  have kindL : kindOf (F ++ [y]) F.length = y.kind := by
    unfold kindOf
    rw [List.getElem?_append_right (Nat.le_refl _)]
    simp
  have adN : ∀ i, i < F.length → upd ad F.length a i = ad i := fun i hi => upd_ne _ _ (by omega)
  have mpN : ∀ i, i < F.length → upd mp F.length m' i = mp i := fun i hi => upd_ne _ _ (by omega)
  have each := hF.ok.each
  refine ⟨⟨hok, ?_, ?_, ?_, ?_, ?_, ?_⟩, ?_⟩
  · rw [hlen, ← hw10]
    exact set_one (((hg9.block fs (by simp; omega) (fun e => d3 (by injection e with e; exact e.symm))).trans ((Below.heap_alloc _ _ _ (by omega)).trans (hm8.block fs lfs (fun e => d2 e.symm)))).trans hfsB)
  · have e : ((List.range (F.length + 1)).map fun i => nodeV (kindOf (F ++ [y]) i) (upd ad F.length a i)) = ((List.range F.length).map fun i => nodeV (kindOf F i) (ad i)) ++ [nodeV y.kind a] := by
      rw [List.range_succ, List.map_append]
      congr 1
      · refine List.map_congr_left fun i hi => ?_
        have hi' := List.mem_range.1 hi
        rw [kindN i hi', adN i hi']
      · simp only [List.map_cons, List.map_nil]
        rw [kindL, upd_same]
    rw [hlen, e]
    exact row_same ho9 (hm10.block g9 hl9 hgfs)
  · intro i y0 hi
    by_cases hiN : i < F.length
    · rw [List.getElem?_append_left (by omega)] at hi
      have h1 := hF.node i y0 hi
      have hk := (each i y0 hi).kind
      rw [adN i hiN, mpN i hiN, adN _ (by have := (each i y0 hi).up; omega)]
      exact h1.keep (keep _ h1.lt (h1.apart hk (.inl ⟨_, _, hmb⟩)) (h1.apart hk (.inr (.inl ⟨_, _, hnbB⟩))) (h1.apart hk (.inr (.inr ⟨_, _, hfsB⟩)))) (by omega) keepD
    · have hiN2 : i = F.length := by
        have := (List.getElem?_eq_some_iff.1 hi).1
        omega
      subst hiN2
      rw [List.getElem?_append_right (Nat.le_refl _)] at hi
      simp at hi
      subst hi
      rw [upd_same, upd_same, hy, adN up (by omega)]
      have hk := (hok.each F.length y (by rw [List.getElem?_append_right (Nat.le_refl _)]; simp)).kind
      exact hN.keep (keep _ hN.lt (hN.apart hk (.inl ⟨_, _, hmb⟩)) hnb hfs) (by omega) keepD
  · intro i hk
    by_cases hiN : i < F.length
    · rw [kindN i hiN] at hk
      rw [mpN i hiN, namesOf_snoc _ _ _ hpos]
      by_cases hiu : i = up
      · subst hiu
        rw [if_pos hy]
        exact h8.same (keep89 _ (by omega) d1 d2)
      · rw [if_neg (by omega), List.append_nil]
        have h1 := hF.names i hk
        obtain ⟨es2, clk2, hmi⟩ := hF.mapBlock hk
        have h2 : mp i ≠ mp up := fun e => hiu (hF.sole i up hk hku e)
        have h3 : mp i ≠ nb := fun e => by rw [e, hnbB] at hmi; cases hmi
        have h4 : mp i ≠ fs := fun e => by rw [e, hfsB] at hmi; cases hmi
        refine (h1.same (keep _ h1.lt h2 h3 h4)).congr fun x hx => ?_
        have hx2 := (namesOf_mem hx).1
        rw [kindN _ (by omega), adN _ (by omega)]
    · obtain rfl : i = F.length := by have := kindOf_lt hk (by omega); omega
      rw [kindL] at hk
      obtain ⟨⟨clk, hmm⟩, hmB, hmne⟩ := hm hk
      rw [upd_same, namesOf_snoc _ _ _ hpos, if_neg (by omega), namesOf_none hF.ok (by omega)]
      have h2 : m' ≠ mp up := hmne up hku
      have h3 : m' ≠ nb := fun e => by rw [e, hnbB] at hmm; cases hmm
      have h4 : m' ≠ fs := fun e => by rw [e, hfsB] at hmm; cases hmm
      exact ⟨#[], clk, (keep _ (Array.getElem?_eq_some_iff.1 hmm).1 h2 h3 h4).trans hmm, ⟨by simp, by simp, by simp⟩, rfl⟩
  · intro i j hi hj hij
    have hi1 := kindOf_lt hi (by omega)
    have hj1 := kindOf_lt hj (by omega)
    by_cases hiN : i < F.length
    · rw [kindN i hiN] at hi
      rw [mpN i hiN] at hij
      by_cases hjN : j < F.length
      · rw [kindN j hjN] at hj
        rw [mpN j hjN] at hij
        exact hF.sole i j hi hj hij
      · obtain rfl : j = F.length := by omega
        rw [kindL] at hj
        rw [upd_same] at hij
        exact absurd hij.symm ((hm hj).2.2 i hi)
    · obtain rfl : i = F.length := by omega
      rw [kindL] at hi
      rw [upd_same] at hij
      by_cases hjN : j < F.length
      · rw [kindN j hjN] at hj
        rw [mpN j hjN] at hij
        exact absurd hij ((hm hi).2.2 j hj)
      · omega
  · obtain ⟨b1, b2, b3, b4⟩ := hF.base
    refine ⟨b1, hgB, fun i hi => ?_, fun i hk => ?_⟩
    · by_cases hiN : i < F.length
      · rw [adN i hiN]; exact b3 i (by omega)
      · have hi2 : i = F.length := by omega
        rw [hi2, upd_same]; exact haB
    · have hi1 := kindOf_lt hk (by omega)
      by_cases hiN : i < F.length
      · rw [kindN i hiN] at hk
        rw [mpN i hiN]; exact b4 i hk
      · obtain rfl : i = F.length := by omega
        rw [kindL] at hk
        rw [upd_same]; exact (hm hk).2.1
  · obtain ⟨b1, b2, b3, b4⟩ := hF.base
    refine ⟨hm10.os.trans (hg9.os.trans hm8.os), hm10.tape.trans (hg9.tape.trans hm8.tape), hm10.output.trans (hg9.output.trans hm8.output), by omega, fun b hb => keep b (by omega) (fun e => by have := b4 up hku; omega) (by omega) (by omega)⟩

theorem app_nd {w : World} {ops : Array Oper} {rest : List Oper} {o : Oper} {a : Act} {Q : Exit → Act → World → Prop} (hgd : o.guard = none) (s x : Operand)
    (ho : o.op = .call { callee := .builtin .append, args := #[s, x], argTypes := #[151, 151] })
    (nb c2 N : Nat) (F : List Nd) (ad : Nat → Nat) (hN : N = F.length) (hs : a.eval s = .slice (some ⟨nb, 0, none⟩) N c2)
    (hown : w.ownsRow 0 207 1 (.slice (some ⟨nb, 0, none⟩) F.length c2) F.length ((List.range F.length).map fun i => nodeV (kindOf F i) (ad i)))
    (t : Value) (ht : t.oneCell' = true) (b c : Nat) (hx : a.eval x = .slice (some ⟨b, 0, none⟩) 1 c) (hb : w.heap[b]? = some (.cells #[t] 207 (0, 0)))
    (hfew : N < 1000000)
    (h : ∀ g cap' w', w'.ownsRow 0 207 1 (.slice (some ⟨g, 0, none⟩) (F.length + 1) cap') (F.length + 1) (((List.range F.length).map fun i => nodeV (kindOf F i) (ad i)) ++ [t]) → w.grownBy w' (some nb) → (some nb = some g ∨ g = w.heap.size) → g < w'.heap.size → wpList Tryz.prog ops Q rest (a.put o.dst (.slice (some ⟨g, 0, none⟩) (N + 1) cap')) w') :
    wpList Tryz.prog ops Q (o :: rest) a w := by
  have hl : ((List.range F.length).map fun i => nodeV (kindOf F i) (ad i)).length = F.length := by rw [List.length_map, List.length_range]
  refine app_node hgd s x ho (some ⟨nb, 0, none⟩) c2 _ (by rw [hl, ← hN]; exact hs) (by rw [hl]; exact hown) t ht b c hx hb (by rw [hl, ← hN]; exact hfew) ?_
  intro g cap' w' h1 h2 h3 h4
  rw [hl] at h1 ⊢
  rw [← hN]
  exact h g cap' w' h1 h2 h3 h4

end Go.Proofs.YtkkmcnngpahfaaaGreatDoor
