/- What a statement of images looks at: Great and Vast answer, whatever comes in. -/
import Derived.Test.YtcekdkeeoghipaaGreatDoorRows
import Derived.WalkKit
import Derived.WalkSpells
import Derived.WalkLawsBesides
import Derived.Lib.Hide
import Derived.Lib.MinMax
import Derived.LoopTactic
import Derived.IntWalk
import Derived.Deep.Upon
import Derived.Deep.Cut
import Derived.Deep.RegionHeld3
import Derived.BigRegion
import Derived.Outline
namespace Go.Proofs.YtcekdkeeoghipaaGreatDoor
open Go.RowKit
set_option linter.unusedSimpArgs false
set_option linter.unusedVariables false

/-- Rows of files, as far as their lengths are asked. -/
def EntsAt (w : World) (P : Option Addr) (n : Nat) : Prop := ∀ k, k < n → ∃ b off A m c, ∃ s t : ByteArray, P = some ⟨b, off, none⟩ ∧ w.cell? ⟨b, off + k * 7, none⟩ = some (.string s) ∧ w.cell? ⟨b, off + k * 7 + 5, none⟩ = some (.slice A m c) ∧ w.cell? ⟨b, off + k * 7 + 6, none⟩ = some (.string t) ∧ s.size ≤ 9223372036854775807 ∧ m ≤ 9223372036854775807 ∧ t.size ≤ 9223372036854775807
theorem EntsAt.below {w w' : World} {P : Option Addr} {n : Nat} (h : EntsAt w P n) (hb : Below w.heap.size w w') : EntsAt w' P n := fun k hk => by
  obtain ⟨b, off, A, m, c, s, t, h1, c0, c5, c6, h2⟩ := h k hk
  have hl : b < w.heap.size := World.block_lt_of_cell? _ _ c0
  have hc : ∀ i, w'.cell? ⟨b, i, none⟩ = w.cell? ⟨b, i, none⟩ := fun i => hb.cell (p := ⟨b, i, none⟩) hl
  exact ⟨b, off, A, m, c, s, t, h1, by rw [hc]; exact c0, by rw [hc]; exact c5, by rw [hc]; exact c6, h2⟩
/-- Rows of texts. -/
def TextsAt (w : World) (P : Option Addr) (n : Nat) : Prop := ∀ k, k < n → ∃ b off, ∃ s : ByteArray, P = some ⟨b, off, none⟩ ∧ w.cell? ⟨b, off + k, none⟩ = some (.string s) ∧ s.size ≤ 9223372036854775807
theorem TextsAt.below {w w' : World} {P : Option Addr} {n : Nat} (h : TextsAt w P n) (hb : Below w.heap.size w w') : TextsAt w' P n := fun k hk => by
  obtain ⟨b, off, s, h1, c0, h2⟩ := h k hk
  have hl : b < w.heap.size := World.block_lt_of_cell? _ _ c0
  exact ⟨b, off, s, h1, by rw [hb.cell (p := ⟨b, off + k, none⟩) hl]; exact c0, h2⟩
/-- It answers yes or no. -/
def BoolR (r : Ending) : Prop := ∃ b, r = .returned (.bool b)
theorem one_cell {w : World} {b : Nat} {cs : Array Value} {T : TypeId} {fr : Nat × Nat} (h : w.heap[b]? = some (.cells cs T fr)) (i : Nat) : w.cell? ⟨b, i, none⟩ = cs[i]? := by simp [World.cell?, h]
def cap20 (k : Nat) : Nat := min k 1048576

set_option maxRecDepth 100000 in
set_option maxHeartbeats 2000000 in
theorem great_some (P : Option Addr) (n cap : Nat) (w : World) (hl : n ≤ 128 → EntsAt w P n) (hn : n ≤ 9223372036854775807) :
    Calls Tryz.prog 24 #[.slice P n cap] w fun e w' => BoolR e ∧ Below w.heap.size w w' := by
  by_cases h128 : n ≤ 128
  · have HL0 := Lib.hid (hl h128)
    clear hl
    have hng : ¬ (128 : Int) < (n : Int) := by omega
    go_enter Tryz.func24, Tryz.ntmps24
    go_wp2_with fail
    go_loopw [3, 4] (fun sv i wr => ∃ k s : Nat, k ≤ n ∧ i = .int .i64 (k : Int) ∧ sv = .int .i64 (s : Int) ∧ s ≤ 524288 ∧ Below w.heap.size w wr) (fun _ i _ => n - (intOf i).toNat)
    case atStart => exact ⟨0, 0, by omega, rfl, rfl, by omega, Below.refl _ _⟩
    case round =>
      obtain ⟨k, s, hk, rfl, rfl, hs, hbe⟩ := hrel
      have HBE := Lib.hid hbe
      clear hbe
      by_cases hlt : k < n
      · obtain ⟨bb, off, A, m, c, s1, s2, rfl, c0, c5, c6, f2, f1, f3⟩ := (HL0.out.below HBE.out) k hlt
        obtain ⟨a, ha⟩ : ∃ a, a = cap20 m := ⟨_, rfl⟩
        obtain ⟨b, hb⟩ : ∃ b, b = cap20 s1.size := ⟨_, rfl⟩
        obtain ⟨d, hd⟩ : ∃ d, d = cap20 s2.size := ⟨_, rfl⟩
        have ha2 : a ≤ 1048576 := by rw [ha]; unfold cap20; omega
        have hb2 : b ≤ 1048576 := by rw [hb]; unfold cap20; omega
        have hd2 : d ≤ 1048576 := by rw [hd]; unfold cap20; omega
        have i1 : min (m : Int) 1048576 = (a : Int) := by rw [ha]; unfold cap20; omega
        have i2 : min (s1.size : Int) 1048576 = (b : Int) := by rw [hb]; unfold cap20; omega
        have i3 : min (s2.size : Int) 1048576 = (d : Int) := by rw [hd]; unfold cap20; omega
        have j1 : IntKind.i64.wrap ((s : Int) + (a : Int)) = (s : Int) + (a : Int) := IntWalk.i64_in _ (by omega)
        have j2 : IntKind.i64.wrap ((s : Int) + (a : Int) + (b : Int)) = (s : Int) + (a : Int) + (b : Int) := IntWalk.i64_in _ (by omega)
        have j3 : IntKind.i64.wrap ((s : Int) + (a : Int) + (b : Int) + (d : Int)) = (s : Int) + (a : Int) + (b : Int) + (d : Int) := IntWalk.i64_in _ (by omega)
        have hkn : (k : Int) < (n : Int) := by omega
        clear ha hb hd
        go_upto_region 7 with (fail)
        go_region_held3 (fun w' => w'.cell? ⟨bb, off + k * 7, none⟩ = some (.string s1) ∧ w'.cell? ⟨bb, off + k * 7 + 5, none⟩ = some (.slice A m c) ∧ w'.cell? ⟨bb, off + k * 7 + 6, none⟩ = some (.string s2)) (go_keep) (fail)
        all_goals
          by_cases hgt : (524288 : Int) < (s : Int) + (a : Int) + (b : Int) + (d : Int)
          · go_wp2_with fail
            go_ret
            exact ⟨⟨_, rfl⟩, HBE.out.drew⟩
          · go_wp2_with fail
            go_roundw
            case rel => exact ⟨k + 1, s + a + b + d, by omega, by go_num, by go_num, by omega, HBE.out.drew⟩
            case measure => simp [intOf]; omega
      · obtain rfl : k = n := by omega
        go_wp2_with fail
        go_ret
        exact ⟨⟨_, rfl⟩, HBE.out⟩
  · have hng : (128 : Int) < (n : Int) := by omega
    clear hl
    go_enter Tryz.func24, Tryz.ntmps24
    go_wp2_with fail
    go_ret
    exact ⟨⟨_, rfl⟩, Below.refl _ _⟩

set_option maxRecDepth 100000 in
set_option maxHeartbeats 4000000 in
theorem vast_some (P : Option Addr) (n cap : Nat) (u0 u1 u2 u3 : Int) (G : Option Addr) (g gc : Nat) (path : ByteArray) (A : Option Addr) (a ac : Nat) (E : Option Addr) (e ec : Nat) (w : World) (hl : n ≤ 128 → EntsAt w P n) (hn : n ≤ 9223372036854775807)
    (hg : g ≤ 9223372036854775807) (hp : path.size ≤ 9223372036854775807) (hA : a ≤ 100 → TextsAt w A a) (ha : a ≤ 9223372036854775807) (hE : e ≤ 100 → TextsAt w E e) (he : e ≤ 9223372036854775807) :
    Calls Tryz.prog 6 #[.agg #[.slice P n cap, .int .u32 u0, .int .u32 u1, .int .u32 u2, .int .u32 u3, .slice G g gc, .string path, .slice A a ac, .slice E e ec]] w fun r w' => BoolR r ∧ Below w.heap.size w w' := by
  have HL := Lib.hid hl
  have HA := Lib.hid hA
  have HE := Lib.hid hE
  clear hl hA hE
  have hb1 : Below w.heap.size w (w.alloc (.cells #[.slice P n cap, .int .u32 u0, .int .u32 u1, .int .u32 u2, .int .u32 u3, .slice G g gc, .string path, .slice A a ac, .slice E e ec] 29)) := (Below.refl _ _).alloc (Nat.le_refl _) _
  have HB1 := Lib.hid hb1
  have HBK := Lib.hid (heap_alloc_new w (.cells #[.slice P n cap, .int .u32 u0, .int .u32 u1, .int .u32 u2, .int .u32 u3, .slice G g gc, .string path, .slice A a ac, .slice E e ec] 29))
  clear hb1
  go_enter Tryz.func6, Tryz.ntmps6
  go_wp2_with (first
    | (go_at_call 24; refine (great_some P n cap _ (fun h => (HL.out h).below HB1.out) hn).mono ?_; rintro r w2 ⟨⟨b, rfl⟩, hb2⟩)
    | fail)
  · have hz : w.heap.size ≤ w2.heap.size := Nat.le_trans HB1.out.size hb2.size
    go_ret
    exact ⟨⟨_, rfl⟩, HB1.out.trans (hb2.mono HB1.out.size)⟩
  · have hle : a ≤ 100 := by omega
    have hle2 : e ≤ 100 := by omega
    have hB2 : Below w.heap.size w w2 := HB1.out.trans (hb2.mono HB1.out.size)
    have hsz : w.heap.size < w2.heap.size := by have := hb2.size; simp at this; omega
    have hK2 := (hb2.block w.heap.size (by simp)).trans HBK.out
    have HB2 := Lib.hid hB2
    have HK2 := Lib.hid hK2
    clear hb2 hB2 hK2
    go_loopw [3, 4] (fun sv i wr => ∃ k s : Nat, k ≤ a ∧ i = .int .i64 (k : Int) ∧ sv = .int .i64 (s : Int) ∧ s ≤ k * 131072 ∧ Below w2.heap.size w2 wr) (fun _ i _ => a - (intOf i).toNat)
    case atStart => exact ⟨0, 0, by omega, rfl, rfl, by omega, Below.refl _ _⟩
    case round =>
      obtain ⟨k, s, hk, rfl, rfl, hs, hbe⟩ := hrel
      have x7 : wr.cell? ⟨w.heap.size, 7, none⟩ = some (.slice A a ac) := (hbe.cell (p := ⟨w.heap.size, 7, none⟩) hsz).trans (one_cell HK2.out 7)
      by_cases hlt : k < a
      · obtain ⟨bb, off, s1, rfl, c0, f1⟩ := ((HA.out hle).below (HB2.out.trans (hbe.mono (Nat.le_of_lt hsz)))) k hlt
        have HBE := Lib.hid hbe
        clear hbe
        obtain ⟨d, hd⟩ : ∃ d, d = min s1.size 131072 := ⟨_, rfl⟩
        have hd2 : d ≤ 131072 := by omega
        have i1 : min (s1.size : Int) 131072 = (d : Int) := by omega
        have j1 : IntKind.i64.wrap ((s : Int) + (d : Int)) = (s : Int) + (d : Int) := IntWalk.i64_in _ (by omega)
        have hkn : (k : Int) < (a : Int) := by omega
        clear hd
        go_wp2_with fail
        go_roundw
        case rel => exact ⟨k + 1, s + d, by omega, by go_num, by go_num, by omega, HBE.out⟩
        case measure => simp [intOf]; omega
      · obtain rfl : k = a := by omega
        have HBE := Lib.hid hbe
        clear hbe
        go_wp2_with fail
        have hbe := HBE.out
        clear HBE
        go_loopw [3, 5] (fun sv i wr => ∃ k s : Nat, k ≤ e ∧ i = .int .i64 (k : Int) ∧ sv = .int .i64 (s : Int) ∧ s ≤ 13107200 + k * 131072 ∧ Below w2.heap.size w2 wr) (fun _ i _ => e - (intOf i).toNat)
        case atStart => exact ⟨0, s, by omega, rfl, rfl, by omega, hbe⟩
        case round =>
          obtain ⟨k, s, hk, rfl, rfl, hs, hbe⟩ := hrel
          have x7 : wr.cell? ⟨w.heap.size, 8, none⟩ = some (.slice E e ec) := (hbe.cell (p := ⟨w.heap.size, 8, none⟩) hsz).trans (one_cell HK2.out 8)
          by_cases hlt : k < e
          · obtain ⟨bb, off, s1, rfl, c0, f1⟩ := ((HE.out hle2).below (HB2.out.trans (hbe.mono (Nat.le_of_lt hsz)))) k hlt
            have HBE := Lib.hid hbe
            clear hbe
            obtain ⟨d, hd⟩ : ∃ d, d = min s1.size 131072 := ⟨_, rfl⟩
            have hd2 : d ≤ 131072 := by omega
            have i1 : min (s1.size : Int) 131072 = (d : Int) := by omega
            have j1 : IntKind.i64.wrap ((s : Int) + (d : Int)) = (s : Int) + (d : Int) := IntWalk.i64_in _ (by omega)
            have hkn : (k : Int) < (e : Int) := by omega
            clear hd
            go_wp2_with fail
            go_roundw
            case rel => exact ⟨k + 1, s + d, by omega, by go_num, by go_num, by omega, HBE.out⟩
            case measure => simp [intOf]; omega
          · obtain rfl : k = e := by omega
            have HBE := Lib.hid hbe
            clear hbe
            go_wp2_with fail
            go_ret
            exact ⟨⟨_, rfl⟩, HB2.out.trans (HBE.out.mono (Nat.le_of_lt hsz))⟩
  all_goals
    go_ret
    exact ⟨⟨_, rfl⟩, HB1.out⟩

end Go.Proofs.YtcekdkeeoghipaaGreatDoor
