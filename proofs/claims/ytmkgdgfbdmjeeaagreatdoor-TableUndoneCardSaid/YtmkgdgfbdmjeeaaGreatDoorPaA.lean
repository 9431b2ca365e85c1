/- Paths: the library's functions on texts; the one path "/a". Paths: Check and Parts at "/a". Files: parts of an entry. -/
import Derived.Test.YtmkgdgfbdmjeeaaGreatDoorTwA
import Derived.Lib.Strings
import Derived.Lib.Slices
import Derived.Lib.SlicesS
import Derived.Lib.Walk
import Derived.Lib.Bytealg
import Derived.Lib.OthersKept

namespace Go.Proofs.YtmkgdgfbdmjeeaaGreatDoor
open Go.RowKit
set_option linter.unusedSimpArgs false
set_option linter.unusedVariables false

set_option maxHeartbeats 1000000 in
set_option maxRecDepth 100000 in
theorem lib_byte (s : ByteArray) (c : Int) (w : World) : Calls Tryz.prog 177 #[.string s, .int .u8 c] w fun e w' => e = .returned (.int .i64 (Lib.indexByte s.data.toList c.toNat.toUInt8)) ∧ w' = w := by
  go_enter Tryz.func177, Tryz.ntmps177
  go_wp2
  rw [run_callFunc_extern Tryz.func181 (by kernel_rfl) (by kernel_rfl) (by kernel_rfl) (e := Extern.BytealgIndexByte.indexByte) (by kernel_rfl), Lib.run_indexByteString]
  simp only [Result.andThen]
  rw [Oper.upon_value]
  go_wp2
  go_ret
  exact ⟨rfl, rfl⟩

set_option maxHeartbeats 2000000 in
set_option maxRecDepth 100000 in
theorem lib_index1 (s : ByteArray) (c : UInt8) (w : World) : Calls Tryz.prog 176 #[.string s, .string ⟨#[c]⟩] w fun e w' => e = .returned (.int .i64 (Lib.indexByte s.data.toList c)) ∧ w' = w := by
  go_enter Tryz.func176, Tryz.ntmps176
  go_wp2_with (go_at_call 177; refine (lib_byte _ _ _).mono ?_; rintro e w' ⟨rfl, rfl⟩)
  · have h : ([c] == s.toList) = true := by assumption
    go_ret
    refine ⟨?_, rfl⟩
    have e : s.data.toList = [c] := by rw [← Lib.toList_data]; exact (beq_iff_eq.1 h).symm
    rw [e]
    simp [Lib.indexByte]
  · go_ret
    exact ⟨rfl, rfl⟩
theorem lib_sindex1 (s : ByteArray) (c : UInt8) (w : World) : Calls Tryz.prog 174 #[.string s, .string ⟨#[c]⟩] w fun e w' => e = .returned (.int .i64 (Lib.indexByte s.data.toList c)) ∧ w' = w := by
  go_enter Tryz.func174, Tryz.ntmps174
  go_wp2_with (go_at_call 176; refine (lib_index1 _ _ _).mono ?_; rintro e w' ⟨rfl, rfl⟩)
  go_ret
  exact ⟨rfl, rfl⟩
theorem lib_contains1 (s : ByteArray) (c : UInt8) (w : World) : Calls Tryz.prog 167 #[.string s, .string ⟨#[c]⟩] w fun e w' => e = .returned (.bool (decide (0 ≤ Lib.indexByte s.data.toList c))) ∧ w' = w := by
  go_enter Tryz.func167, Tryz.ntmps167
  go_wp2_with (go_at_call 174; refine (lib_sindex1 _ _ _).mono ?_; rintro e w' ⟨rfl, rfl⟩)
  go_ret
  exact ⟨rfl, rfl⟩
set_option maxHeartbeats 1000000 in
theorem lib_prefix (s p : ByteArray) (w : World) : Calls Tryz.prog 164 #[.string s, .string p] w fun e w' => e = .returned (.bool (Lib.hasPrefix s.data.toList p.data.toList)) ∧ w' = w := by
  rw [← Lib.hasPrefix_of_take, ← Lib.size_eq, ← Lib.size_eq]
  go_enter Tryz.func164, Tryz.ntmps164
  go_wp2
  · rename_i h
    go_ret
    refine ⟨?_, rfl⟩
    show Ending.returned (Value.bool ((s.extract 0 p.size).toList == p.toList)) = _
    rw [Lib.extract_toList, Lib.toList_data]
    simp [h]
  · rename_i h
    go_ret
    refine ⟨?_, rfl⟩
    show Ending.returned (Value.bool false) = _
    simp [h]
set_option maxHeartbeats 1000000 in
theorem lib_suffix (s p : ByteArray) (w : World) (hs : s.size ≤ 9223372036854775807) : Calls Tryz.prog 165 #[.string s, .string p] w fun e w' => e = .returned (.bool (Lib.hasSuffix s.data.toList p.data.toList)) ∧ w' = w := by
  rw [← Lib.hasSuffix_raw]
  have hlo : p.size ≤ s.size → ((s.size : Int) - (p.size : Int) + 9223372036854775808) % 18446744073709551616 - 9223372036854775808 = ((s.size - p.size : Nat) : Int) := fun _ => by omega
  go_enter Tryz.func165, Tryz.ntmps165
  go_wp2
  · have h : p.size ≤ s.size := by assumption
    go_ret
    refine ⟨?_, rfl⟩
    show Ending.returned (Value.bool ((s.extract (s.size - p.size) s.size).toList == p.toList)) = _
    simp [h]
  · have h : ¬ p.size ≤ s.size := by assumption
    go_ret
    refine ⟨?_, rfl⟩
    show Ending.returned (Value.bool false) = _
    simp [h]
theorem tail_any (s : ByteArray) (w : World) (hs : s.size ≤ 9223372036854775807) : Calls Tryz.prog 152 #[.string s] w fun e w' => e = .returned (.bool (Lib.hasSuffix s.data.toList [47])) ∧ w' = w := by
  go_enter Tryz.func152, Tryz.ntmps152
  go_wp2_with (go_at_call 165; refine (lib_suffix _ _ _ hs).mono ?_; rintro e w' ⟨rfl, rfl⟩)
  go_ret
  exact ⟨rfl, rfl⟩

def pathA : ByteArray := ⟨#[47, 97]⟩
theorem pathA_size : pathA.size = 2 := rfl

theorem next_a0 {s : ByteArray} (hs : s = ⟨#[47, 97]⟩) (w : World) (k : Nat) (ty : TypeId) (h : w.heap[k]? = some (.stringIter s 0)) :
    (Instr.next (.pointer (some ⟨k, 0, none⟩)) true ty).run Tryz.prog w = .ok (.tuple #[.bool true, .int .i64 0, .int .i32 47]) (w.iterAt k s 1) := by
  subst hs
  exact Go.Lib.run_next_ascii_at w k _ 0 ty h (by decide) (by decide)
theorem next_a1 {s : ByteArray} (hs : s = ⟨#[47, 97]⟩) (w : World) (k : Nat) (ty : TypeId) (h : w.heap[k]? = some (.stringIter s 1)) :
    (Instr.next (.pointer (some ⟨k, 0, none⟩)) true ty).run Tryz.prog w = .ok (.tuple #[.bool true, .int .i64 1, .int .i32 97]) (w.iterAt k s 2) := by
  subst hs
  exact Go.Lib.run_next_ascii_at w k _ 1 ty h (by decide) (by decide)

set_option maxHeartbeats 2000000 in
set_option maxRecDepth 100000 in
theorem pieces_check (bo : Nat) (w : World) (Q : World → Prop)
    (h1 : ∀ w1, Below w.heap.size w w1 → Calls Tryz.prog 168 (#[.string ByteArray.empty] ++ #[.pointer (some ⟨bo, 0, none⟩)]) w1 fun e w2 => e = .returned (.bool true) ∧ w2 = w1)
    (h2 : ∀ w1, Below w.heap.size w w1 → Calls Tryz.prog 168 (#[.string ⟨#[97]⟩] ++ #[.pointer (some ⟨bo, 0, none⟩)]) w1 fun e w2 => e = .returned (.bool true) ∧ Q w2) :
    Calls Tryz.prog 162 #[.string ⟨#[47, 97]⟩, .func (.func 168) #[] #[.pointer (some ⟨bo, 0, none⟩)]] w fun e w' => e = .returned (.tuple #[]) ∧ Q w' := by
  obtain ⟨s, hs⟩ : ∃ s : ByteArray, s = ⟨#[47, 97]⟩ := ⟨_, rfl⟩
  have hsz : s.size = 2 := by rw [hs]; rfl
  have x00 : s.extract 0 0 = ⟨#[]⟩ := by rw [hs]; rfl
  have x12 : s.extract 1 2 = ⟨#[97]⟩ := by rw [hs]; rfl
  rw [← hs]
  have H1 := Lib.hid h1
  have H2 := Lib.hid h2
  have HS := Lib.hid hs
  have X0 := Lib.hid x00
  have X1 := Lib.hid x12
  clear h1 h2 hs x00 x12
  go_enter Tryz.func162, Tryz.ntmps162
  go_wp2_with fail
  go_loopw [4] (fun i wr => ∃ pos : Nat, pos ≤ 2 ∧ i = .int .i64 (if pos = 0 then 0 else 1) ∧ wr.heap[w.heap.size]? = some (.stringIter s pos) ∧ Below w.heap.size w wr) (fun _ wr => 2 - wr.iterPos w.heap.size)
  case atStart => exact ⟨0, by omega, rfl, World.iter_heap w s 0, (Below.refl _ _).alloc (Nat.le_refl _) _⟩
  case round =>
    obtain ⟨pos, hp, rfl, hit, hbe⟩ := hrel
    have hpos := iterPos_of hit
    have HIT := Lib.hid hit
    clear hit
    have hlt := (Array.getElem?_eq_some_iff.1 HIT.out).1
    rcases (by omega : pos = 0 ∨ pos = 1 ∨ pos = 2) with rfl | rfl | rfl
    · have hnx := fun ty => next_a0 HS.out wr w.heap.size ty HIT.out
      have hw1 : Below w.heap.size w (wr.iterAt w.heap.size s 1) := Go.Lib.below_iterAt hbe (Nat.le_refl _) s 1
      have hit1 := Go.Lib.iterAt_heap wr w.heap.size s 0 1 HIT.out
      obtain ⟨w1, hw⟩ : ∃ w1, w1 = wr.iterAt w.heap.size s 1 := ⟨_, rfl⟩
      rw [← hw] at hw1 hit1 hnx
      have HI1 := Lib.hid hit1
      have hp1 := iterPos_of hit1
      clear hit1 hw
      go_wp2_with (first
        | (go_at_call 168; refine (H1.out w1 hw1).mono ?_; rintro e w2 ⟨rfl, rfl⟩)
        | fail)
      go_roundw
      case rel => exact ⟨1, by omega, rfl, HI1.out, hw1⟩
      case measure => (simp [hp1, hpos])
    · have hnx := fun ty => next_a1 HS.out wr w.heap.size ty HIT.out
      have hw1 : Below w.heap.size w (wr.iterAt w.heap.size s 2) := Go.Lib.below_iterAt hbe (Nat.le_refl _) s 2
      have hit1 := Go.Lib.iterAt_heap wr w.heap.size s 1 2 HIT.out
      obtain ⟨w1, hw⟩ : ∃ w1, w1 = wr.iterAt w.heap.size s 2 := ⟨_, rfl⟩
      rw [← hw] at hw1 hit1 hnx
      have HI1 := Lib.hid hit1
      have hp1 := iterPos_of hit1
      clear hit1 hw
      go_wp2_with fail
      go_roundw
      case rel => exact ⟨2, by omega, rfl, HI1.out, hw1⟩
      case measure => (simp [hp1, hpos])
    · have hnx := fun ty => Go.Lib.run_next_end_at (P := Tryz.prog) wr w.heap.size s 2 ty HIT.out (by omega)
      go_wp2_with (first
        | (go_at_call 168; go_loud (rw [X1.out]); refine (H2.out wr hbe).mono ?_; rintro e w2 ⟨rfl, hq⟩)
        | fail)
      go_end0
      exact ⟨rfl, hq⟩

end Go.Proofs.YtmkgdgfbdmjeeaaGreatDoor

namespace Go.Proofs.YtmkgdgfbdmjeeaaGreatDoor
open Go.RowKit Go.Sort
set_option linter.unusedSimpArgs false
set_option linter.unusedVariables false

set_option maxHeartbeats 2000000 in
set_option maxRecDepth 100000 in
theorem pieces_parts (bo : Nat) (w : World) (Q : World → Prop)
    (h1 : ∀ w1, Below w.heap.size w w1 → Calls Tryz.prog 163 (#[.string ByteArray.empty] ++ #[.pointer (some ⟨bo, 0, none⟩)]) w1 fun e w2 => e = .returned (.bool true) ∧ w2 = w1)
    (h2 : ∀ w1, Below w.heap.size w w1 → Calls Tryz.prog 163 (#[.string ⟨#[97]⟩] ++ #[.pointer (some ⟨bo, 0, none⟩)]) w1 fun e w2 => e = .returned (.bool true) ∧ Q w2) :
    Calls Tryz.prog 162 #[.string ⟨#[47, 97]⟩, .func (.func 163) #[] #[.pointer (some ⟨bo, 0, none⟩)]] w fun e w' => e = .returned (.tuple #[]) ∧ Q w' := by
  obtain ⟨s, hs⟩ : ∃ s : ByteArray, s = ⟨#[47, 97]⟩ := ⟨_, rfl⟩
  have hsz : s.size = 2 := by rw [hs]; rfl
  have x00 : s.extract 0 0 = ⟨#[]⟩ := by rw [hs]; rfl
  have x12 : s.extract 1 2 = ⟨#[97]⟩ := by rw [hs]; rfl
  rw [← hs]
  have H1 := Lib.hid h1
  have H2 := Lib.hid h2
  have HS := Lib.hid hs
  have X0 := Lib.hid x00
  have X1 := Lib.hid x12
  clear h1 h2 hs x00 x12
  go_enter Tryz.func162, Tryz.ntmps162
  go_wp2_with fail
  go_loopw [4] (fun i wr => ∃ pos : Nat, pos ≤ 2 ∧ i = .int .i64 (if pos = 0 then 0 else 1) ∧ wr.heap[w.heap.size]? = some (.stringIter s pos) ∧ Below w.heap.size w wr) (fun _ wr => 2 - wr.iterPos w.heap.size)
  case atStart => exact ⟨0, by omega, rfl, World.iter_heap w s 0, (Below.refl _ _).alloc (Nat.le_refl _) _⟩
  case round =>
    obtain ⟨pos, hp, rfl, hit, hbe⟩ := hrel
    have hpos := iterPos_of hit
    have HIT := Lib.hid hit
    clear hit
    have hlt := (Array.getElem?_eq_some_iff.1 HIT.out).1
    rcases (by omega : pos = 0 ∨ pos = 1 ∨ pos = 2) with rfl | rfl | rfl
    · have hnx := fun ty => next_a0 HS.out wr w.heap.size ty HIT.out
      have hw1 : Below w.heap.size w (wr.iterAt w.heap.size s 1) := Go.Lib.below_iterAt hbe (Nat.le_refl _) s 1
      have hit1 := Go.Lib.iterAt_heap wr w.heap.size s 0 1 HIT.out
      obtain ⟨w1, hw⟩ : ∃ w1, w1 = wr.iterAt w.heap.size s 1 := ⟨_, rfl⟩
      rw [← hw] at hw1 hit1 hnx
      have HI1 := Lib.hid hit1
      have hp1 := iterPos_of hit1
      clear hit1 hw
      go_wp2_with (first
        | (go_at_call 163; refine (H1.out w1 hw1).mono ?_; rintro e w2 ⟨rfl, rfl⟩)
        | fail)
      go_roundw
      case rel => exact ⟨1, by omega, rfl, HI1.out, hw1⟩
      case measure => (simp [hp1, hpos])
    · have hnx := fun ty => next_a1 HS.out wr w.heap.size ty HIT.out
      have hw1 : Below w.heap.size w (wr.iterAt w.heap.size s 2) := Go.Lib.below_iterAt hbe (Nat.le_refl _) s 2
      have hit1 := Go.Lib.iterAt_heap wr w.heap.size s 1 2 HIT.out
      obtain ⟨w1, hw⟩ : ∃ w1, w1 = wr.iterAt w.heap.size s 2 := ⟨_, rfl⟩
      rw [← hw] at hw1 hit1 hnx
      have HI1 := Lib.hid hit1
      have hp1 := iterPos_of hit1
      clear hit1 hw
      go_wp2_with fail
      go_roundw
      case rel => exact ⟨2, by omega, rfl, HI1.out, hw1⟩
      case measure => (simp [hp1, hpos])
    · have hnx := fun ty => Go.Lib.run_next_end_at (P := Tryz.prog) wr w.heap.size s 2 ty HIT.out (by omega)
      go_wp2_with (first
        | (go_at_call 163; go_loud (rw [X1.out]); refine (H2.out wr hbe).mono ?_; rintro e w2 ⟨rfl, hq⟩)
        | fail)
      go_end0
      exact ⟨rfl, hq⟩

def OwnS (w : World) (base : Nat) (A : Option Addr) (cap : Nat) (l : List ByteArray) : Prop := w.ownsRow base 9 1 (.slice A l.length cap) l.length (l.map Value.string)
theorem OwnS.nil (w : World) (base : Nat) : OwnS w base none 0 [] := World.ownsRow_nil w base _ 1
theorem OwnS.elem {w : World} {base g : Nat} {cap : Nat} {l : List ByteArray} (h : OwnS w base (some ⟨g, 0, none⟩) cap l) {j : Nat} {t : ByteArray} (hp : l[j]? = some t) : w.cell? ⟨g, j, none⟩ = some (.string t) := by
  have hk : j < l.length := (List.getElem?_eq_some_iff.1 hp).1
  rw [World.ownsRow.cellAt h j (by omega), List.getElem?_map, hp]
  rfl
theorem OwnS.same {w w' : World} {base : Nat} {A : Option Addr} {cap : Nat} {l : List ByteArray} (h : OwnS w base A cap l) (hb : ∀ g, A = some ⟨g, 0, none⟩ → w'.heap[g]? = w.heap[g]?) : OwnS w' base A cap l := by
  refine ⟨h.1, ?_⟩
  rcases h.2 with h2 | ⟨g, cap', cur, h1, h2, h3, h4⟩
  · exact .inl h2
  · injection h1 with e1 e2 e3
    exact .inr ⟨g, cap', cur, by rw [e1, e2, e3], h2, (hb g e1).trans h3, h4⟩
theorem set_one {w : World} {b : Nat} {x y : Value} {t : TypeId} (h : w.heap[b]? = some (.cells #[x] t (0, 0))) : (w.setCell ⟨b, 0, none⟩ y).heap[b]? = some (.cells #[y] t (0, 0)) := by
  have h1 := Joins.block_setCell (i := 0) h y
  simpa using h1
theorem cell_same {w w' : World} {b : Nat} (h : w'.heap[b]? = w.heap[b]?) (i : Nat) : w'.cell? ⟨b, i, none⟩ = w.cell? ⟨b, i, none⟩ := by simp [World.cell?, h]
theorem str_info : (Tryz.prog.info? 9).map (fun i => (i.zero, i.size, i.bytes)) = some (some (.string ByteArray.empty), 1, 16) := by kernel_rfl
theorem app_str {w : World} {ops : Array Oper} {rest : List Oper} {o : Oper} {a : Act} {Q : Exit → Act → World → Prop} (hgd : o.guard = none) (s x : Operand)
    (ho : o.op = .call { callee := .builtin .append, args := #[s, x], argTypes := #[176, 176] })
    (base : Nat) (A : Option Addr) (cap : Nat) (l : List ByteArray) (hs : a.eval s = .slice A l.length cap) (hown : OwnS w base A cap l)
    (t : ByteArray) (b c : Nat) (hx : a.eval x = .slice (some ⟨b, 0, none⟩) 1 c) (hb : w.heap[b]? = some (.cells #[.string t] 9 (0, 0)))
    (hfew : l.length < 1000000) (hbase : base ≤ w.heap.size)
    (h : ∀ g cap' w', OwnS w' base (some ⟨g, 0, none⟩) cap' (l ++ [t]) → w.grownBy w' (A.map (·.block)) → (A.map (·.block) = some g ∨ g = w.heap.size) → g < w'.heap.size → wpList Tryz.prog ops Q rest (a.put o.dst (.slice (some ⟨g, 0, none⟩) (l.length + 1) cap')) w') :
    wpList Tryz.prog ops Q (o :: rest) a w := by
  obtain ⟨i0, hi0, hz0, hz1, hz2⟩ := info_parts str_info
  refine wpList_append_lies w hgd s x 176 ho base 9 i0 _ 1 16 Tryz.underlying176 hi0 hz0 hz1 hz2 rfl (by omega) _ l.length (l.map Value.string) hs hown ⟨b, 0, none⟩ 1 c [.string t] hx rfl (World.news_of_block (cs := #[.string t]) hb)
    (by simp [Value.oneCell']) (by omega) (by unfold maxLen; omega) (by omega) hbase w.heap.size rfl ?_
  intro g cap' w' ho' hg hat hlt
  refine h g cap' w' ?_ ?_ ?_ hlt
  · unfold OwnS
    rw [List.map_append, List.length_append]
    exact ho'
  · cases A <;> simpa [Value.ownBlock] using hg
  · cases A <;> simpa [Value.ownBlock] using hat

theorem check1_any (bo : Nat) (x : ByteArray) (w : World) (hx : x.size ≤ 32) (hc : w.cell? ⟨bo, 0, none⟩ = some (.int .i64 0)) : Calls Tryz.prog 168 (#[.string x] ++ #[.pointer (some ⟨bo, 0, none⟩)]) w fun e w' => e = .returned (.bool true) ∧ w' = w := by
  go_enter Tryz.func168, Tryz.ntmps168
  go_wp2_with fail
  go_ret
  exact ⟨rfl, rfl⟩
theorem parts1_none (bo : Nat) (w : World) : Calls Tryz.prog 163 (#[.string ByteArray.empty] ++ #[.pointer (some ⟨bo, 0, none⟩)]) w fun e w' => e = .returned (.bool true) ∧ w' = w := by
  go_enter Tryz.func163, Tryz.ntmps163
  go_wp2_with fail
  go_ret
  exact ⟨rfl, rfl⟩
/-- One part lies in new memory, and the captured variable leads to it. -/
def OnePart (bo base : Nat) (w w' : World) : Prop := ∃ g cap, w'.cell? ⟨bo, 0, none⟩ = some (.slice (some ⟨g, 0, none⟩) 1 cap) ∧ w'.heap[bo]? = some (.cells #[.slice (some ⟨g, 0, none⟩) 1 cap] 176 (0, 0)) ∧ OwnS w' base (some ⟨g, 0, none⟩) cap [⟨#[97]⟩] ∧ Mod (fun b => b = bo) w w' ∧ base ≤ g ∧ g < w'.heap.size ∧ g ≠ bo
set_option maxHeartbeats 1000000 in
theorem parts1_a (bo base : Nat) (w : World) (hB : w.heap[bo]? = some (.cells #[.slice none 0 0] 176 (0, 0))) (hbase : base ≤ bo) : Calls Tryz.prog 163 (#[.string ⟨#[97]⟩] ++ #[.pointer (some ⟨bo, 0, none⟩)]) w fun e w' => e = .returned (.bool true) ∧ OnePart bo base w w' := by
  have hbw : bo < w.heap.size := (Array.getElem?_eq_some_iff.1 hB).1
  have c0 : w.cell? ⟨bo, 0, none⟩ = some (.slice none 0 0) := one_block hB 0
  have f0 : w.frozen? ⟨bo, 0, none⟩ = false := one_free hB 0
  have HB := Lib.hid hB
  clear hB
  go_enter Tryz.func163, Tryz.ntmps163
  go_wp2_with (first
    | (at_builtin; refine app_str rfl (.tmp 10) (.tmp 12) rfl base none 0 [] rfl (OwnS.nil _ _) ⟨#[97]⟩ w.heap.size 1 rfl (heap_alloc_new _ _) (by simp) (by simp; omega) ?_; intro g cap' w1 ho hg hat hlt; have hB1 : w1.heap[bo]? = some (.cells #[.slice none 0 0] 176 (0, 0)) := (hg.block bo (by simp; omega) (by simp)).trans ((Below.heap_alloc _ _ _ hbw).trans HB.out); have c1 := one_block hB1 0; have f1 := one_free hB1 0; have HB1 := Lib.hid hB1; have HO := Lib.hid ho; have HG := Lib.hid hg; have HAT := Lib.hid hat; clear hB1 ho hg hat)
    | fail)
  go_ret
  have hg := HG.out
  have hat := HAT.out
  have hz := hg.size
  have e1 : g = w.heap.size + 1 := by simpa using hat
  have hm : Mod (fun b => b = bo) w w1 := (Mod.of ((Below.refl w.heap.size w).alloc (Nat.le_refl _) _)).trans (Out.refl _ _) ⟨hg.os, hg.tape, hg.output, hg.size, fun b hb _ => hg.block b hb (by simp)⟩
  have hset := set_one HB1.out (y := .slice (some ⟨g, 0, none⟩) 1 cap')
  refine ⟨rfl, g, cap', one_block hset 0, hset, ?_, hm.trans (Out.refl _ _) (mod_set (S := fun b => b = bo) rfl 0 _), by omega, by simpa using hlt, by omega⟩
  exact OwnS.same HO.out fun g' e' => by
    injection e' with e'
    injection e' with e'
    exact (mod_set (S := fun b => b = bo) (w := w1) rfl 0 _).block g' (e' ▸ hlt) (by omega)

theorem clear_a : Lib.indexByte (ByteArray.mk #[47, 97]).data.toList 0 = -1 := by decide
theorem checkA_any (w : World) : Calls Tryz.prog 154 #[.string ⟨#[47, 97]⟩] w fun e w' => e = .returned (.int .i64 0) ∧ Below w.heap.size w w' := by
  obtain ⟨s, hs⟩ : ∃ s : ByteArray, s = ⟨#[47, 97]⟩ := ⟨_, rfl⟩
  have hp := pieces_check w.heap.size (w.alloc (.cells #[.int .i64 0] 32)) (fun w' => w'.cell? ⟨w.heap.size, 0, none⟩ = some (.int .i64 0) ∧ Below w.heap.size w w')
    (fun w1 hb => check1_any _ _ w1 (by decide) ((hb.cell (by simp)).trans (one_block (heap_alloc_new w _) 0)))
    (fun w1 hb => (check1_any _ _ w1 (by decide) ((hb.cell (by simp)).trans (one_block (heap_alloc_new w _) 0))).mono fun e w' ⟨h1, h2⟩ => ⟨h1, by
      rw [h2]
      exact ⟨(hb.cell (by simp)).trans (one_block (heap_alloc_new w _) 0), ((Below.refl w.heap.size w).alloc (Nat.le_refl _) _).trans (hb.mono (by simp))⟩⟩)
  have hq := lib_contains1 ⟨#[47, 97]⟩ 0 w
  rw [clear_a] at hq
  rw [← hs] at hp hq ⊢
  have hsz : s.size = 2 := by rw [hs]; rfl
  have hne : (s.toList == []) = false := by rw [Lib.toList_data, hs]; decide
  have HP := Lib.hid hp
  have HQ := Lib.hid hq
  have HS := Lib.hid hs
  clear hp hq hs
  go_enter Tryz.func154, Tryz.ntmps154
  go_wp2_with (first
    | (go_at_call 167; refine (HQ.out).mono ?_; rintro e w2 ⟨rfl, rfl⟩)
    | (go_at_call 162; refine (HP.out).mono ?_; rintro e w2 ⟨rfl, hc, hb⟩))
  go_ret
  exact ⟨rfl, hb⟩

theorem results_cell_tmp2 {fn : Func} {p u v : Tmp} {ty : TypeId} (h : fn.results = #[.cell p ty, .tmp u, .tmp v]) (tmps : Array Value) (P : Program) (w : World) :
    (results fn tmps).run P w =
      ((asAddr (tmps.getD p undef)).run P w).andThen fun a w₁ => ((loadVar ty a).run P w₁).andThen fun x w₂ => .ok (.tuple #[x, tmps.getD u undef, tmps.getD v undef]) w₂ := by
  simp only [results, h]
  simp [Sem.run_bind, Result.andThen]
theorem results_parts {tmps : Array Value} {w : World} {bo g cap : Nat} (h2 : tmps.getD 2 undef = .pointer (some ⟨bo, 0, none⟩)) (h3 : tmps.getD 3 undef = .bool true) (h4 : tmps.getD 4 undef = .int .i64 0) (hc : w.cell? ⟨bo, 0, none⟩ = some (.slice (some ⟨g, 0, none⟩) 1 cap)) :
    (results Tryz.f151 tmps).run Tryz.prog w = .ok (.tuple #[.slice (some ⟨g, 0, none⟩) 1 cap, .bool true, .int .i64 0]) w := by
  rw [results_cell_tmp2 rfl, h2, h3, h4]
  go_simp
def PartsPost (w : World) (e : Ending) (w' : World) : Prop := ∃ g cap, e = .returned (.tuple #[.slice (some ⟨g, 0, none⟩) 1 cap, .bool true, .int .i64 0]) ∧ w'.cell? ⟨g, 0, none⟩ = some (.string ⟨#[97]⟩) ∧ w.heap.size ≤ g ∧ g < w'.heap.size ∧ Below w.heap.size w w'
set_option maxHeartbeats 1000000 in
theorem partsA_any (w : World) : Calls Tryz.prog 151 #[.string ⟨#[47, 97]⟩] w (PartsPost w) := by
  obtain ⟨s, hs⟩ : ∃ s : ByteArray, s = ⟨#[47, 97]⟩ := ⟨_, rfl⟩
  have hal := heap_alloc_new w (.cells #[.slice none 0 0] 176)
  have hp := fun (w0 : World) (hb0 : Below (w.alloc (.cells #[.slice none 0 0] 176)).heap.size (w.alloc (.cells #[.slice none 0 0] 176)) w0) => pieces_parts w.heap.size w0 (fun w' => ∃ g cap, w'.heap[w.heap.size]? = some (.cells #[.slice (some ⟨g, 0, none⟩) 1 cap] 176 (0, 0)) ∧ w'.cell? ⟨g, 0, none⟩ = some (.string ⟨#[97]⟩) ∧ w.heap.size ≤ g ∧ g < w'.heap.size ∧ g ≠ w.heap.size ∧ Below w.heap.size w w')
    (fun w1 hb => parts1_none _ w1)
    (fun w1 hb => (parts1_a w.heap.size w.heap.size w1 ((hb.block _ (Nat.lt_of_lt_of_le (by simp) hb0.size)).trans ((hb0.block _ (by simp)).trans hal)) (Nat.le_refl _)).mono fun e w' ⟨h1, g, cap, h2, h3, h4, h5, h6, h7, h8⟩ => ⟨h1, g, cap, h3, h4.elem rfl, h6, h7, h8,
      ((Mod.of (((Below.refl w.heap.size w).alloc (Nat.le_refl _) _).trans (hb0.mono (by simp)))).trans (Out.refl _ _) ((Mod.of (hb.mono (by have := hb0.size; simp at this; omega))).trans (Out.refl _ _) h5)).below (S := fun b => b = w.heap.size) (fun b hb => by omega) (Nat.le_refl _)⟩)
  have hq := fun w0 => checkA_any w0
  have hpre := fun w0 => lib_prefix ⟨#[47, 97]⟩ ⟨#[47]⟩ w0
  have hpt : Lib.hasPrefix (ByteArray.mk #[47, 97]).data.toList (ByteArray.mk #[47]).data.toList = true := by decide
  rw [hpt] at hpre
  rw [← hs] at hp hq hpre ⊢
  have HP := Lib.hid hp
  have HQ := Lib.hid hq
  have HPR := Lib.hid hpre
  have HS := Lib.hid hs
  clear hp hq hs hpre
  go_enter Tryz.func151, Tryz.ntmps151
  go_wp2_with (first
    | (go_at_call 154; refine (HQ.out _).mono ?_; rintro e w1 ⟨rfl, hb1⟩)
    | (go_at_call 162; refine (HP.out w1 hb1).mono ?_; rintro e w2 ⟨rfl, g, cap, hc, hd, hg1, hg2, hg3, hb⟩; have c1 := one_block hc 0; have f1 := one_free hc 0; have HC := Lib.hid hc; clear hc))
  go_region_with
    ((first
      | (go_at_call 164; refine (HPR.out _).mono ?_; rintro e w3 ⟨rfl, rfl⟩)))
  all_goals
    go_wp2_with fail
    have hset := set_one HC.out (y := .slice (some ⟨g, 0, none⟩) 1 cap)
    have hm := mod_set (S := fun b => b = w.heap.size) (w := w2) rfl 0 (.slice (some ⟨g, 0, none⟩) 1 cap)
    refine bodyPost_ret (v := .tuple #[.slice (some ⟨g, 0, none⟩) 1 cap, .bool true, .int .i64 0]) (results_parts rfl rfl rfl (one_block hset 0)) rfl ?_
    refine ⟨g, cap, rfl, ?_, hg1, ?_, ?_⟩
    · exact (cell_same (w' := (w2.setCell ⟨w.heap.size, 0, none⟩ (.slice (some ⟨g, 0, none⟩) 1 cap)).drew) (hm.block g hg2 hg3) 0).trans hd
    · exact Nat.lt_of_lt_of_le hg2 hm.size
    · exact ((Mod.of hb).trans (Out.refl _ _) hm.drew).below (S := fun b => b = w.heap.size) (fun b hb => by omega) (Nat.le_refl _)

end Go.Proofs.YtmkgdgfbdmjeeaaGreatDoor

namespace Go.Proofs.YtmkgdgfbdmjeeaaGreatDoor
open Go.RowKit Go.Sort
set_option linter.unusedSimpArgs false
set_option linter.unusedVariables false

set_option maxHeartbeats 1000000 in
theorem containsS_a (g cap : Nat) (w : World) (h : w.cell? ⟨g, 0, none⟩ = some (.string ⟨#[97]⟩)) : Calls Tryz.prog 166 #[.slice (some ⟨g, 0, none⟩) 1 cap, .string ⟨#[46, 46]⟩] w fun e w' => e = .returned (.int .i64 (-1)) ∧ w' = w := by
  have hne : ((ByteArray.mk #[46, 46]).toList == (ByteArray.mk #[97]).toList) = false := by rw [Lib.toList_data, Lib.toList_data]; decide
  obtain ⟨s, hs⟩ : ∃ s : ByteArray, s = ⟨#[46, 46]⟩ := ⟨_, rfl⟩
  obtain ⟨t, ht⟩ : ∃ t : ByteArray, t = ⟨#[97]⟩ := ⟨_, rfl⟩
  rw [← hs, ← ht] at hne
  rw [← ht] at h
  rw [← hs]
  clear hs ht
  go_enter Tryz.func166, Tryz.ntmps166
  go_wp2
  go_loop [5, 8] (fun _ i => i = .int .i64 0 ∨ i = .int .i64 1) (fun _ i => match i with | .int _ m => 1 - m.toNat | _ => 0)
  case atStart => exact .inl rfl
  case round =>
    rcases hrel with rfl | rfl
    · go_wp2
      exact ⟨.inr rfl, by decide⟩
    · go_wp2
      go_ret
      exact ⟨rfl, rfl⟩

theorem containsS_no (g cap : Nat) (w : World) (h : w.cell? ⟨g, 0, none⟩ = some (.string ⟨#[97]⟩)) : Calls Tryz.prog 153 #[.slice (some ⟨g, 0, none⟩) 1 cap, .string ⟨#[46, 46]⟩] w fun e w' => e = .returned (.bool false) ∧ w' = w := by
  go_enter Tryz.func153, Tryz.ntmps153
  go_wp2_with (go_at_call 166; refine (containsS_a g cap _ h).mono ?_; rintro e w3 ⟨rfl, rfl⟩)
  go_ret
  exact ⟨rfl, rfl⟩

def entryA (A : Option Addr) (n c : Nat) : Value := .agg #[.string ⟨#[47, 97]⟩, .int .u8 1, .int .u16 420, .int .u32 0, .int .u32 0, .slice A n c, .string ByteArray.empty]
def VPartsPost (w : World) (e : Ending) (w' : World) : Prop := ∃ g cap, e = .returned (.tuple #[.slice (some ⟨g, 0, none⟩) 1 cap, .int .i64 0]) ∧ w'.cell? ⟨g, 0, none⟩ = some (.string ⟨#[97]⟩) ∧ w.heap.size ≤ g ∧ g < w'.heap.size ∧ Below w.heap.size w w'
set_option maxHeartbeats 2000000 in
theorem vparts_a (A : Option Addr) (n c : Nat) (w : World) (hn : n ≤ 65536) : Calls Tryz.prog 129 #[entryA A n c] w (VPartsPost w) := by
  have hpa := partsA_any
  have hta := fun W => tail_any ⟨#[47, 97]⟩ W (by decide)
  have ht : Lib.hasSuffix (ByteArray.mk #[47, 97]).data.toList [47] = false := by decide
  rw [ht] at hta
  obtain ⟨w0, hw0⟩ : ∃ w0, w0 = w.alloc (.cells #[.string ⟨#[47, 97]⟩, .int .u8 1, .int .u16 420, .int .u32 0, .int .u32 0, .slice A n c, .string ByteArray.empty] 114) := ⟨_, rfl⟩
  have hb0 : Below w.heap.size w w0 := by rw [hw0]; exact (Below.refl _ _).alloc (Nat.le_refl _) _
  have hE : w0.heap[w.heap.size]? = some (.cells #[.string ⟨#[47, 97]⟩, .int .u8 1, .int .u16 420, .int .u32 0, .int .u32 0, .slice A n c, .string ByteArray.empty] 114 (0, 0)) := by rw [hw0]; exact heap_alloc_new w _
  have hlt0 : w.heap.size < w0.heap.size := (Array.getElem?_eq_some_iff.1 hE).1
  obtain ⟨s, hs⟩ : ∃ s : ByteArray, s = ⟨#[47, 97]⟩ := ⟨_, rfl⟩
  unfold entryA
  rw [← hs] at hpa hta hw0 hE ⊢
  have d0 : w0.cell? ⟨w.heap.size, 0, none⟩ = some (.string s) := one_block hE 0
  have HPA := Lib.hid hpa
  have HTA := Lib.hid hta
  have HE := Lib.hid hE
  have HW0 := Lib.hid hw0
  clear hpa hta hs ht hE hw0
  go_enter Tryz.func129, Tryz.ntmps129
  go_upto_region 1 with (fail)
  rw [← HW0.out]
  go_wp2_with (first
    | (go_at_call 151; refine (HPA.out _).mono ?_; rintro e w1 ⟨g, cap, rfl, hc1, hg1, hg2, hb1⟩; have hE1 := (hb1.block _ hlt0).trans HE.out; have e0 : w1.cell? ⟨w.heap.size, 0, none⟩ = some (.string s) := one_block hE1 0; have e1 : w1.cell? ⟨w.heap.size, 1, none⟩ = some (.int .u8 1) := one_block hE1 1; have e2 : w1.cell? ⟨w.heap.size, 2, none⟩ = some (.int .u16 420) := one_block hE1 2; have e5 : w1.cell? ⟨w.heap.size, 5, none⟩ = some (.slice A n c) := one_block hE1 5; have e6 : w1.cell? ⟨w.heap.size, 6, none⟩ = some (.string ByteArray.empty) := one_block hE1 6; have HE1 := Lib.hid hE1; clear hE1)
    | (go_at_call 152; refine (HTA.out _).mono ?_; rintro e w2 ⟨rfl, rfl⟩)
    | (go_at_call 153; refine (containsS_no g cap _ hc1).mono ?_; rintro e w3 ⟨rfl, rfl⟩))
  go_ret2
  exact ⟨g, cap, rfl, hc1, Nat.le_trans hb0.size hg1, hg2, hb0.trans (hb1.mono hb0.size)⟩

end Go.Proofs.YtmkgdgfbdmjeeaaGreatDoor
