/- ImageNil in any world: it returns true, and nothing that lay there is changed. -/
import Derived.Test.YtcekdkeeoghipaaGreatDoorWag
import Derived.Test.YtcekdkeeoghipaaGreatDoorImA
set_option linter.unusedSimpArgs false
set_option linter.unusedVariables false
namespace Go.Proofs.YtcekdkeeoghipaaGreatDoor
open Go.RowKit Go.Ev
set_option linter.unusedSimpArgs false
set_option linter.unusedVariables false
set_option maxRecDepth 100000 in
set_option maxHeartbeats 4000000 in
theorem imageNil_any (P : Option Addr) (n cap : Nat) (u0 u1 u2 u3 : Int) (G : Option Addr) (g gc : Nat) (path : ByteArray) (A : Option Addr) (a ac : Nat) (E : Option Addr) (e ec : Nat) (addr k : Int) (w : World) (hl : n ≤ 128 → EntsAt w P n) (hn : n ≤ 9223372036854775807)
    (hg : g ≤ 9223372036854775807) (hp : path.size ≤ 9223372036854775807) (hA : a ≤ 100 → TextsAt w A a) (ha : a ≤ 9223372036854775807) (hE : e ≤ 100 → TextsAt w E e) (he : e ≤ 9223372036854775807)
    (rG : RowIn (.slice G g gc)) (rA : RowIn (.slice A a ac)) (rE : RowIn (.slice E e ec)) (hob : ∃ arr el fr, w.heap[1]? = some (.cells arr el fr)) :
    Calls Tryz.prog 3 #[.agg #[.slice P n cap, .int .u32 u0, .int .u32 u1, .int .u32 u2, .int .u32 u3, .slice G g gc, .string path, .slice A a ac, .slice E e ec], .int .u64 addr, .int .i64 k] w fun r w' => r = .returned (.bool true) ∧ Below w.heap.size w w' := by
  obtain ⟨arr, el, fr, hob⟩ := hob
  have HL := Lib.hid hl
  have HA := Lib.hid hA
  have HE := Lib.hid hE
  have HO := Lib.hid hob
  clear hl hA hE
  have h1w : 1 < w.heap.size := (Array.getElem?_eq_some_iff.1 hob).1
  have HB1 := Lib.hid ((Below.refl w.heap.size w).alloc (Nat.le_refl _) (.cells #[.slice P n cap, .int .u32 u0, .int .u32 u1, .int .u32 u2, .int .u32 u3, .slice G g gc, .string path, .slice A a ac, .slice E e ec] 29))
  have HBK := Lib.hid (heap_alloc_new w (.cells #[.slice P n cap, .int .u32 u0, .int .u32 u1, .int .u32 u2, .int .u32 u3, .slice G g gc, .string path, .slice A a ac, .slice E e ec] 29))
  clear hob
  go_enter Tryz.func3, Tryz.ntmps3
  go_wp2_with (first
    | (go_at_call 6; refine (vast_some P n cap u0 u1 u2 u3 G g gc path A a ac E e ec _ (fun h => (HL.out h).below HB1.out) hn hg hp (fun h => (HA.out h).below HB1.out) ha (fun h => (HE.out h).below HB1.out) he).mono ?_; rintro r w2 ⟨⟨b, rfl⟩, hb2⟩; have hB2 := HB1.out.trans (hb2.mono HB1.out.size); have HB2 := Lib.hid hB2; have K2 := (hb2.block w.heap.size (by simp)).trans HBK.out; have x1 := one_cell K2 1; have x2 := one_cell K2 2; have x3 := one_cell K2 3; have x4 := one_cell K2 4; have x5 := one_cell K2 5; have x6 := one_cell K2 6; have x7 := one_cell K2 7; have x8 := one_cell K2 8; have HK2 := Lib.hid K2; clear hb2 hB2 K2)
    | (go_at_call 7; refine (works_any _ ((HB6.out.block 1 h1w).trans HO.out)).mono ?_; rintro r w7 ⟨rfl, hb7⟩; have HB7 := Lib.hid (HB6.out.trans (hb7.mono HB6.out.size)); clear hb7)
    | (go_at_call 7; refine (works_any _ ((HB2.out.block 1 h1w).trans HO.out)).mono ?_; rintro r w3 ⟨rfl, hb3⟩; have HB7 := Lib.hid (HB2.out.trans (hb3.mono HB2.out.size)); clear hb3)
    | (go_at_call 8; have hm := makeNil_any u0 u1 u2 u3 (.slice G g gc) (.slice A a ac) (.slice E e ec) path rG rA rE w2; unfold planV at hm; refine hm.mono ?_; clear hm; rintro r w3 ⟨rfl, hb3⟩; have HB3 := Lib.hid (HB2.out.trans (hb3.mono HB2.out.size)); clear hb3; clear x1 x2 x3 x4 x5 x6 x7 x8)
    | (go_at_call 9; have hm := bytesNil_any addr k (w3.alloc (.cells #[.slice none 0 0, .slice none 0 0, .int .u64 0, .int .u64 0, .int .u32 0, .int .u32 0, .int .u32 0, .int .u32 0, .slice none 0 0, .bool false, .slice none 0 0] 36)); unfold planV at hm; refine hm.mono ?_; clear hm; rintro r w5 ⟨rfl, hb5⟩; have HB5 := Lib.hid ((HB3.out.alloc (HB3.out.size) (.cells #[.slice none 0 0, .slice none 0 0, .int .u64 0, .int .u64 0, .int .u32 0, .int .u32 0, .int .u32 0, .int .u32 0, .slice none 0 0, .bool false, .slice none 0 0] 36)).trans (hb5.mono (Nat.le_trans HB3.out.size (by simp)))); have K5 := (hb5.block w3.heap.size (by simp)).trans (heap_alloc_new w3 (.cells #[.slice none 0 0, .slice none 0 0, .int .u64 0, .int .u64 0, .int .u32 0, .int .u32 0, .int .u32 0, .int .u32 0, .slice none 0 0, .bool false, .slice none 0 0] 36)); have y0 := one_cell K5 0; have y1 := one_cell K5 1; have y2 := one_cell K5 2; have y3 := one_cell K5 3; have y4 := one_cell K5 4; have y5 := one_cell K5 5; have y6 := one_cell K5 6; have y7 := one_cell K5 7; have y8 := one_cell K5 8; have y9 := one_cell K5 9; have y10 := one_cell K5 10; clear hb5 K5)
    | (go_at_call 10; have hm := samePlan_any w5; unfold planV at hm; refine hm.mono ?_; clear hm; rintro r w6 ⟨rfl, hb6⟩; have HB6 := Lib.hid (HB5.out.trans (hb6.mono HB5.out.size)); clear hb6)
    | fail)
  all_goals
    go_ret
    exact ⟨rfl, HB7.out⟩
end Go.Proofs.YtcekdkeeoghipaaGreatDoor
