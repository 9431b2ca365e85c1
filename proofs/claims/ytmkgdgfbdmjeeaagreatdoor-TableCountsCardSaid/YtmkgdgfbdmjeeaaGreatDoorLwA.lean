/- The table's statements: made. -/
import Derived.Test.YtmkgdgfbdmjeeaaGreatDoorVpY
import Derived.Test.YtmkgdgfbdmjeeaaGreatDoorNwA
import Derived.Test.YtmkgdgfbdmjeeaaGreatDoorCaZ
namespace Go.Proofs.YtmkgdgfbdmjeeaaGreatDoor
open Go.RowKit Go.Sort
set_option linter.unusedSimpArgs false
set_option linter.unusedVariables false

/-- A table over a cache, and what is held; all of it lies from B on, the files below B. -/
structure OwnAt (w : World) (B o a c fs m t root : Nat) (clock : Int) (S : Nat → Prop) (p : Pool) (L : List Slot) (H : Option Addr) (cap : Nat) (hold : List Nat) : Prop where
  self : w.heap[o]? = some (.cells #[.pointer (some ⟨a, 0, none⟩), .pointer (some ⟨c, 0, none⟩), .pointer (some ⟨t, 0, none⟩), .slice H hold.length cap] 56 (0, 0))
  cache : CacheAt w S c a fs m clock p L
  tab : TabSelf w t c a root
  files : FilesAt w fs 8201 fileDat
  low : ∀ b, S b → B ≤ b
  lows : B ≤ o ∧ B ≤ c ∧ B ≤ m ∧ B ≤ t
  noS : ¬ S o ∧ ¬ S t
  ne : o ≠ c ∧ o ≠ m ∧ o ≠ t ∧ t ≠ m ∧ t ≠ c
def MadePost (w : World) (n : Nat) (e : Ending) (w' : World) : Prop :=
  ∃ B o a c fs m t S, e = .returned (.tuple #[.pointer (some ⟨o, 0, none⟩), .bool true]) ∧ OwnAt w' B o a c fs m t 0 0 S ((fresh n).takeAt 0) [] none 0 [] ∧ Below w.heap.size w w' ∧ w.heap.size ≤ B ∧ (∃ w1, w1.heap.size = B ∧ FilesAt w1 fs 8201 fileDat ∧ Below B w1 w')

theorem FilesAt.below {w w' : World} {B fs n : Nat} {dat : Nat → Nat} (h : FilesAt w fs n dat) (hB : w.heap.size = B) (hb : Below B w w') : FilesAt w' fs n dat := by
  subst hB
  obtain ⟨d, x, g, nb, c2, cd, h1, h2, h3, ⟨m, h4⟩, h5, h6, h7, h8⟩ := h
  refine ⟨d, x, g, nb, c2, cd, (hb.block _ (Array.getElem?_eq_some_iff.1 h1).1).trans h1, (hb.cell h7.1).trans h2, (hb.cell h7.1).trans h3, ⟨m, (hb.block _ (Array.getElem?_eq_some_iff.1 h4).1).trans h4⟩, (hb.block _ (Array.getElem?_eq_some_iff.1 h5).1).trans h5, h6.below hb (fun x hx => by injection hx with hx; subst hx; exact h7.2), ⟨Nat.lt_of_lt_of_le h7.1 hb.size, Nat.lt_of_lt_of_le h7.2 hb.size⟩, h8⟩

set_option maxRecDepth 100000 in
set_option maxHeartbeats 2000000 in
theorem made_any (n : Nat) (w : World) (h1 : 1 ≤ n) (h2 : n ≤ 1024) (hdb : DB w) (hw0 : 0 < w.heap.size) : Calls Tryz.prog 9 #[.int .i64 (n : Int)] w (MadePost w n) := by
  have HDB := Lib.hid hdb
  clear hdb
  go_enter Tryz.func9, Tryz.ntmps9
  go_wp2_with (first
    | (go_at_call 35; refine (file_any _).mono ?_; rintro e w1 ⟨b, g, rfl, hE, hA, hg, hb1⟩; have HE := Lib.hid hE; have HA := Lib.hid hA; have HB1 := Lib.hid hb1; clear hE hA hb1)
    | (go_at_call 34; refine (vnew_a b 8201 8201 ⟨g, 0, none⟩ fileDat _ HE.out HA.out hg (by omega) (by omega)).mono ?_; rintro e w2 ⟨fs, rfl, hF, hb2⟩; have HF := Lib.hid hF; have hB2 := HB1.out.trans (hb2.mono HB1.out.size); have HB2 := Lib.hid hB2; have hdb2 : DB w2 := HDB.out.same (hB2.block 0 hw0); have HDB2 := Lib.hid hdb2; have hz2 := hB2.size; clear hF hb2 hB2 hdb2)
    | (go_at_call 36; refine (fnew_any n _ h1 h2 HDB2.out (by omega)).mono ?_; rintro e w3 ⟨a, S, rfl, hP, hb3, hS3⟩; have HP := Lib.hid hP; have HB3 := Lib.hid hb3; have HS3 := Lib.hid hS3; have hz3 := hb3.size; clear hP hb3 hS3)
    | (go_at_call 37; refine (cnew_any a fs _ S (fresh n) HP.out).mono ?_; rintro e w4 ⟨c, m, rfl, hC, hb4, hc4, hm4⟩; have HC := Lib.hid hC; have HB4 := Lib.hid hb4; have hz4 := hb4.size; clear hC hb4)
    | (go_at_call 38; refine (tnew_some c a fs m 0 0 _ S (fresh n) [] HC.out (fresh_lowest h1)).mono ?_; rintro e w5 ⟨t, S', rfl, hC5, hT5, hM5, hO5, ht5, hn5⟩; have HC5 := Lib.hid hC5; have HT5 := Lib.hid hT5; have HM5 := Lib.hid hM5; have HO5 := Lib.hid hO5; have HN5 := Lib.hid hn5; have hz5 := hM5.size; clear hC5 hT5 hM5 hO5 hn5))
  go_ret2
  have hC5 := HC5.out
  have hT5 := HT5.out
  have hl4 := HC.out.lts
  have ht5' : t < w5.heap.size := (Array.getElem?_eq_some_iff.1 hT5).1
  have hl5 := hC5.pool.low
  have hS4 : ∀ b, Both S m b → w2.heap.size ≤ b := fun b hb => hb.elim (HS3.out b) (fun e => by omega)
  have hS5 : ∀ b, S' b → w2.heap.size ≤ b := fun b hb => (HO5.out b hb).elim (HS3.out b) (fun h => by omega)
  have h24 : Below w2.heap.size w2 w4 := HB3.out.trans (HB4.out.mono hz3)
  have h25 : Below w2.heap.size w2 w5 := h24.trans (HM5.out.below hS4 (by omega))
  have h56 := (Below.refl w5.heap.size w5).alloc (Nat.le_refl _) (.cells #[.pointer (some ⟨a, 0, none⟩), .pointer (some ⟨c, 0, none⟩), .pointer (some ⟨t, 0, none⟩), .slice none 0 0] 56)
  have h26 : Below w2.heap.size w2 (w5.alloc (.cells #[.pointer (some ⟨a, 0, none⟩), .pointer (some ⟨c, 0, none⟩), .pointer (some ⟨t, 0, none⟩), .slice none 0 0] 56)) := h25.trans (h56.mono (by omega))
  exact ⟨w2.heap.size, w5.heap.size, a, c, fs, m, t, S', rfl, ⟨heap_alloc_new _ _, hC5.below h56, (h56.block t ht5').trans hT5, HF.out.below rfl h26, hS5, ⟨by omega, by omega, by omega, by omega⟩, ⟨fun e => by have := hl5 _ e; omega, HN5.out⟩, ⟨by omega, by omega, by omega, by omega, by omega⟩⟩, HB2.out.trans (h26.mono hz2), hz2, w2, rfl, HF.out, h26⟩

end Go.Proofs.YtmkgdgfbdmjeeaaGreatDoor
