/- The cache's laws: vast; twins: entries in memory of their own. The cache's laws: twins, its walk. The cache's and the table's New, and the cache's Pool. The cache's laws: made: a cache behind what is done. The cache's laws: how often a frame is held. The table's statements: made. The cache's statements: works. What comes in at the cache's laws: files and what is done, opened. The opener of structs is the guide's own (howto/extra-structs.md), as it asks it to be copied. The cache's laws: the methods at the object of the laws; what comes in, too great or not. Files come in: their slice is no longer than its room. -/
import Derived.Test.YtkkmcnngpahfaaaGreatDoorEnA
import Derived.Test.YtkkmcnngpahfaaaGreatDoorVpZ
import Derived.Deep.Upon
import Derived.Test.YtkkmcnngpahfaaaGreatDoorCaZ
import Derived.Test.YtkkmcnngpahfaaaGreatDoorTtZ
import Derived.Carry
import Derived.Test.YtkkmcnngpahfaaaGreatDoorFlA
import Derived.Test.YtkkmcnngpahfaaaGreatDoorMgc
import Derived.Test.YtkkmcnngpahfaaaGreatDoorMgb
import Derived.Test.YtkkmcnngpahfaaaGreatDoorVpY
import Derived.Test.YtkkmcnngpahfaaaGreatDoorTfZ
import Derived.Test.YtkkmcnngpahfaaaGreatDoorPrA
import Derived.Test.YtkkmcnngpahfaaaGreatDoorVqA
import Derived.ChangeSlices

namespace Go.Proofs.YtkkmcnngpahfaaaGreatDoor
open Go.RowKit Go.Sort Go.Deep
set_option linter.unusedSimpArgs false
set_option linter.unusedVariables false

theorem vast8_yes (P : Option Addr) (n cap k cap2 : Nat) (Q : Option Addr) (N : Int) (w : World) (h : (200 : Int) < (k : Int) ∨ 64 < N ∨ (64 : Int) < (n : Int)) :
    Calls Tryz.prog 13 #[.agg #[.slice P n cap, .int .i64 N], .slice Q k cap2] w fun e w' => e = .returned (.bool true) ∧ Below w.heap.size w w' := by
  by_cases h1 : (200 : Int) < (k : Int)
  · go_enter Tryz.func13, Tryz.ntmps13
    go_wp2_with fail
    go_ret
    exact ⟨rfl, (Below.refl _ _).alloc (Nat.le_refl _) _⟩
  · by_cases h2 : 64 < N
    · go_enter Tryz.func13, Tryz.ntmps13
      go_wp2_with fail
      go_ret
      exact ⟨rfl, (Below.refl _ _).alloc (Nat.le_refl _) _⟩
    · have h3 : (64 : Int) < (n : Int) := by omega
      go_enter Tryz.func13, Tryz.ntmps13
      go_wp2_with fail
      go_ret
      exact ⟨rfl, (Below.refl _ _).alloc (Nat.le_refl _) _⟩
theorem vast8_some (P : Option Addr) (n cap k cap2 : Nat) (Q : Option Addr) (N : Int) (l : List Ent) (w : World) (hl : EntsIn w P l) (hn : n = l.length) (h1 : (k : Int) ≤ 200) (h2 : N ≤ 64) (h3 : n ≤ 64) :
    Calls Tryz.prog 13 #[.agg #[.slice P n cap, .int .i64 N], .slice Q k cap2] w fun e w' => e = .returned (.bool (greatN 0 l)) ∧ Below w.heap.size w w' := by
  have hb := (Below.refl w.heap.size w).alloc (Nat.le_refl _) (.cells #[.slice P n cap, .int .i64 N] 42)
  have hg := great_any P n cap l _ (hl.below hb) hn (by omega)
  obtain ⟨gb, hgb⟩ : ∃ gb, gb = greatN 0 l := ⟨_, rfl⟩
  rw [← hgb] at hg ⊢
  have hn2 : (n : Int) ≤ 64 := by omega
  have HG := Lib.hid hg
  have HB := Lib.hid hb
  clear hg hl hn hgb hb
  go_enter Tryz.func13, Tryz.ntmps13
  go_wp2_with (first
    | (go_at_call 58; refine (HG.out).mono ?_; rintro e w1 ⟨rfl, hb1⟩)
    | fail)
  go_ret
  exact ⟨rfl, HB.out.trans (hb1.mono HB.out.size)⟩

def TwinsPost (w : World) (l : List Ent) (e : Ending) (w' : World) : Prop := ∃ R cap, e = .returned (.slice R l.length cap) ∧ EntsAt w' R l ∧ l.length ≤ cap ∧ Below w.heap.size w w'
theorem twins_done {w w' : World} {R : Option Addr} {cap : Nat} {L : List EntR} {l : List Ent} (hL : L.map EntR.ent = l) (hO : OwnE w' w.heap.size R cap L) (hT : ∀ r ∈ L, TwOk w' r) (hsm : ∀ x ∈ l, x.n ≤ 524288 ∧ x.path.size ≤ 524288 ∧ x.to.size ≤ 524288) : EntsAt w' R l := fun j x hx => by
  rw [← hL, List.getElem?_map] at hx
  cases hr : L[j]? with
  | none => rw [hr] at hx; cases hx
  | some r =>
    rw [hr] at hx
    injection hx with hx
    subst hx
    have hm := hsm r.ent (by rw [← hL]; exact List.mem_map.2 ⟨r, List.mem_of_getElem? hr, rfl⟩)
    obtain ⟨t1, t2, t3, t4⟩ := hT r (List.mem_of_getElem? hr)
    rcases hO.form with ⟨_, e, _⟩ | ⟨g, e, _, hg, _⟩
    · rw [e] at hr; simp at hr
    · subst e
      refine ⟨g, r.A, r.c, rfl, hg, ⟨?_, ?_, ?_, ?_, ?_, ?_, ?_⟩, ⟨by omega, by omega, by omega, t1, t4⟩⟩
      · have := hO.cell hr 0 (by omega); simpa [entC] using this
      · have := hO.cell hr 1 (by omega); simpa [entC] using this
      · have := hO.cell hr 2 (by omega); simpa [entC] using this
      · have := hO.cell hr 3 (by omega); simpa [entC] using this
      · have := hO.cell hr 4 (by omega); simpa [entC] using this
      · have := hO.cell hr 5 (by omega); simpa [entC] using this
      · have := hO.cell hr 6 (by omega); simpa [entC] using this

end Go.Proofs.YtkkmcnngpahfaaaGreatDoor

namespace Go.Proofs.YtkkmcnngpahfaaaGreatDoor
open Go.RowKit Go.Sort
set_option linter.unusedSimpArgs false
set_option linter.unusedVariables false

set_option maxRecDepth 100000 in
set_option maxHeartbeats 4000000 in
theorem twins_any (P : Option Addr) (n cap : Nat) (l : List Ent) (w : World) (hl : EntsIn w P l) (hn : n = l.length) (hn2 : n ≤ 64) (hsm : ∀ x ∈ l, x.n ≤ 524288 ∧ x.path.size ≤ 524288 ∧ x.to.size ≤ 524288) :
    Calls Tryz.prog 62 #[.slice P n cap] w (TwinsPost w l) := by
  have HL0 := Lib.hid hl
  have HN := Lib.hid hn
  have HSM := Lib.hid hsm
  clear hl hn hsm
  go_enter Tryz.func62, Tryz.ntmps62
  go_wp2_with fail
  go_loopw [3, 4] (fun sv i wr => ∃ (k : Nat) (R : Option Addr) (cp : Nat) (L : List EntR), k ≤ n ∧ i = .int .i64 (k : Int) ∧ sv = .slice R k cp ∧ L.map EntR.ent = l.take k ∧ k = L.length ∧ OwnE wr w.heap.size R cp L ∧ (∀ r ∈ L, TwOk wr r) ∧ Below w.heap.size w wr) (fun _ i _ => n - (intOf i).toNat)
  case atStart => exact ⟨0, none, 0, [], by omega, rfl, rfl, rfl, rfl, World.ownsRow_nil w _ _ 7, (fun r hr => by cases hr), Below.refl _ _⟩
  case round =>
    obtain ⟨k, R, cp, L, hk, rfl, rfl, hLt, hkL, hO, hT, hbe⟩ := hrel
    have HLT := Lib.hid hLt
    have HKL := Lib.hid hkL
    have HO := Lib.hid hO
    have HT := Lib.hid hT
    have HBE := Lib.hid hbe
    have hwz := hbe.size
    clear hLt hkL hO hT hbe
    by_cases hlt : k < n
    · obtain ⟨x, hx⟩ : ∃ x, l[k]? = some x := ⟨_, List.getElem?_eq_getElem (by rw [← HN.out]; exact hlt)⟩
      have htk : l.take (k + 1) = l.take k ++ [x] := by
        rw [List.take_add_one, hx]
        rfl
      have hxs := HSM.out x (List.mem_of_getElem? hx)
      obtain ⟨bb, off, A, c, rfl, ⟨c0, c1, c2, c3, c4, c5, c6⟩, hA, hAok, hfit⟩ := (HL0.out.below HBE.out) k x hx
      obtain ⟨w1, hw1⟩ : ∃ w1, w1 = wr.alloc (.cells #[.string x.path, .int .u8 (x.kind : Int), .int .u16 (x.mode : Int), .int .u32 (x.uid : Int), .int .u32 (x.gid : Int), .slice A x.n c, .string x.to] 106) := ⟨_, rfl⟩
      have hx1 : w1.heap[wr.heap.size]? = some (.cells #[.string x.path, .int .u8 (x.kind : Int), .int .u16 (x.mode : Int), .int .u32 (x.uid : Int), .int .u32 (x.gid : Int), .slice A x.n c, .string x.to] 106 (0, 0)) := by rw [hw1]; exact heap_alloc_new wr _
      have hb1 : Below wr.heap.size wr w1 := by rw [hw1]; exact (Below.refl _ _).alloc (Nat.le_refl _) _
      have hx1l : wr.heap.size < w1.heap.size := (Array.getElem?_eq_some_iff.1 hx1).1
      have HW1 := Lib.hid hw1
      have HX1 := Lib.hid hx1
      have HB1 := Lib.hid hb1
      have HTK := Lib.hid htk
      have HA := Lib.hid (hA.kept hb1)
      have hkn : (k : Int) < (n : Int) := by omega
      clear hx htk hw1 hx1 hb1 hA hfit
      go_upto_region 6 with (fail)
      rw [← HW1.out]
      clear c0 c1 c2 c3 c4 c5 c6
      have x5 : w1.cell? ⟨wr.heap.size, 5, none⟩ = some (.slice A x.n c) := one_block HX1.out 5
      have hbe2 : Below w1.heap.size w1 (w1.alloc (.cells #[] 5)) := (Below.refl _ _).alloc (Nat.le_refl _) _
      have HBE2 := Lib.hid hbe2
      clear hbe2
      by_cases h0 : 0 < x.n
      · obtain ⟨ad, rfl⟩ : ∃ ad, A = some ad := by obtain ⟨ad, e, _⟩ := HA.out h0; exact ⟨ad, e⟩
        have HA2 := Lib.hid (HA.out.kept HBE2.out)
        go_upto_region 7 with (first
          | (at_builtin; refine app_bytes rfl (.tmp 16) (.tmp 18) rfl w1.heap.size (some ⟨w1.heap.size, 0, none⟩) 0 0 (fun _ => 0) rfl (OwnB.none_made w1) ad x.n c x.dat rfl HA2.out h0 (by omega) (by simp) ?_; intro g2 cp2 w3 ho hg hat hlt3; have hb13 : Below w1.heap.size w1 w3 := ((Below.refl _ _).alloc (Nat.le_refl _) _).grown hg (by simp) (fun k hk => by simp at hk; omega); have y5 := (hb13.cell (p := ⟨wr.heap.size, 5, none⟩) hx1l).trans x5; have yf := one_free ((hb13.block _ hx1l).trans HX1.out) 5; have HO2 := Lib.hid ho; clear ho hg hat)
          | fail)
        have HBR : Hid (ByteRow w3 (some ⟨g2, 0, none⟩) x.n cp2 x.dat) := Lib.hid (by
          have h9 := HO2.out
          rw [Nat.zero_add] at h9
          exact (h9.congr (fun i _ => by simp)).byteRow)
        clear y5 yf x5
        have hx3 := (hb13.block _ hx1l).trans HX1.out
        have hx4 : (w3.setCell ⟨wr.heap.size, 5, none⟩ (.slice (some ⟨g2, 0, none⟩) x.n (cp2))).heap[wr.heap.size]? = some (.cells (entC ⟨x, some ⟨g2, 0, none⟩, cp2⟩).toArray 106 (0, 0)) := (by
          have h9 := Joins.block_setCell (i := 5) hx3 (.slice (some ⟨g2, 0, none⟩) x.n (cp2))
          simpa [entC] using h9)
        have hm34 := mod_set (S := fun b => b = wr.heap.size) (w := w3) (b := wr.heap.size) rfl 5 (.slice (some ⟨g2, 0, none⟩) x.n (cp2))
        have hz13 := hb13.size
        obtain ⟨w4, hw4⟩ : ∃ w4, w4 = w3.setCell ⟨wr.heap.size, 5, none⟩ (.slice (some ⟨g2, 0, none⟩) x.n (cp2)) := ⟨_, rfl⟩
        rw [← hw4] at hx4 hm34 ⊢
        have hbr3 : Below wr.heap.size wr w3 := HB1.out.trans (hb13.mono (by omega))
        have hbr4 : Below wr.heap.size wr w4 := (by rw [hw4]; exact hbr3.setCell (p := ⟨wr.heap.size, 5, none⟩) (Nat.le_refl _) _)
        have hBR4 : ByteRow w4 (some ⟨g2, 0, none⟩) x.n (cp2) x.dat := HBR.out.keep (fun g cs f hg => hm34.block g (Array.getElem?_eq_some_iff.1 hg).1 (fun e => (by
          rw [e, hx3] at hg
          injection hg with hg
          injection hg with _ e2 _
          exact absurd e2 (by decide))))
        have y0 : w4.cell? ⟨wr.heap.size, 0, none⟩ = some (.string x.path) := one_block hx4 0
        have y1 : w4.cell? ⟨wr.heap.size, 1, none⟩ = some (.int .u8 (x.kind : Int)) := one_block hx4 1
        have y2 : w4.cell? ⟨wr.heap.size, 2, none⟩ = some (.int .u16 (x.mode : Int)) := one_block hx4 2
        have y3 : w4.cell? ⟨wr.heap.size, 3, none⟩ = some (.int .u32 (x.uid : Int)) := one_block hx4 3
        have y4 : w4.cell? ⟨wr.heap.size, 4, none⟩ = some (.int .u32 (x.gid : Int)) := one_block hx4 4
        have y5 : w4.cell? ⟨wr.heap.size, 5, none⟩ = some (.slice (some ⟨g2, 0, none⟩) x.n (cp2)) := one_block hx4 5
        have y6 : w4.cell? ⟨wr.heap.size, 6, none⟩ = some (.string x.to) := one_block hx4 6
        have HO4 := Lib.hid (HO.out.kept hbr4)
        have HT4 : Hid (∀ r ∈ L ++ [⟨x, some ⟨g2, 0, none⟩, cp2⟩], TwOk w4 r) := Lib.hid (fun r hr => (by
          rcases List.mem_append.1 hr with h9 | h9
          · exact (HT.out r h9).below hbr4
          · rw [List.mem_singleton] at h9
            subst h9
            exact hBR4))
        have hbw4 : Below w.heap.size w w4 := HBE.out.trans (hbr4.mono hwz)
        have hz4 := hbw4.size
        have HBW4 := Lib.hid hbw4
        clear hx3 hx4 hm34 hw4 hbr3 hbr4 hBR4 hbw4
        go_wp2_with (first
          | (at_builtin; refine app_ent rfl (.tmp 21) (.tmp 23) rfl w.heap.size R cp k L HKL.out rfl (World.ownsRow.alloc HO4.out _) ⟨x, some ⟨g2, 0, none⟩, cp2⟩ w4.heap.size 1 rfl (heap_alloc_new _ _) (by omega) (by simp; omega) ?_; intro g5 cp5 w5 ho5 hg5 hat5 hlt5; have HO5 := Lib.hid ho5; have HG5 := Lib.hid hg5; clear ho5 hg5 hat5)
          | fail)
        go_roundw
        case rel =>
          refine ⟨k + 1, some ⟨g5, 0, none⟩, cp5, L ++ [⟨x, some ⟨g2, 0, none⟩, cp2⟩], by omega, by go_num, rfl, by rw [List.map_append, HLT.out, HTK.out]; rfl, by rw [List.length_append, ← HKL.out]; rfl, HO5.out, fun r hr => ?_, ?_⟩
          · refine (HT4.out r hr).keep fun g cs f hg => ?_
            refine (HG5.out.block g (by have := (Array.getElem?_eq_some_iff.1 hg).1; simp; omega) (fun e => ?_)).trans (Below.heap_alloc _ _ _ (Array.getElem?_eq_some_iff.1 hg).1)
            cases hR : R with
            | none => rw [hR] at e; cases e
            | some ad2 =>
              have hO9 := HO4.out
              rw [hR] at e hO9
              rcases hO9.form with ⟨e9, _⟩ | ⟨g9, e9, _⟩
              · cases e9
              · injection e9 with e9
                subst e9
                obtain ⟨cur, e8, _⟩ := hO9.block
                simp at e
                rw [e, e8] at hg
                injection hg with hg
                injection hg with _ e2 _
                exact absurd e2 (by decide)
          · refine (HBW4.out.alloc hz4 _).grown HG5.out (by simp; omega) fun k' hk' => ?_
            rcases HO4.out.form with ⟨e9, _⟩ | ⟨g9, e9, h9, _⟩
            · rw [e9] at hk'; cases hk'
            · rw [e9] at hk'; simp at hk'; omega
        case measure => simp [intOf]; omega
      · have HN0 := Lib.hid (show x.n = 0 by omega)
        obtain ⟨w3, hw3⟩ : ∃ w3, w3 = w1.alloc (.cells #[] 5) := ⟨_, rfl⟩
        have hb13 : Below w1.heap.size w1 w3 := by rw [hw3]; exact HBE2.out
        have hx3' := (hb13.block _ hx1l).trans HX1.out
        have z5 : w3.cell? ⟨wr.heap.size, 5, none⟩ = some (.slice A x.n c) := one_block hx3' 5
        have zf := one_free hx3' 5
        have HBR : Hid (ByteRow w3 (some ⟨w1.heap.size, 0, none⟩) x.n 0 x.dat) := Lib.hid (by
          rw [HN0.out, hw3]
          exact ⟨(fun h => by omega), (OwnB.none_made w1).byteRow.2.1, Nat.le_refl _, fun e => by cases e⟩)
        have HW3 := Lib.hid hw3
        clear hw3 hx3'
        go_upto_region 7 with (first
          | (at_builtin; rw [← HW3.out]; refine app_zero rfl (.tmp 16) (.tmp 18) rfl (some ⟨w1.heap.size, 0, none⟩) x.n 0 HN0.out rfl A c rfl ?_)
          | fail)
        clear z5 zf x5
        have hx3 := (hb13.block _ hx1l).trans HX1.out
        have hx4 : (w3.setCell ⟨wr.heap.size, 5, none⟩ (.slice (some ⟨w1.heap.size, 0, none⟩) x.n (0))).heap[wr.heap.size]? = some (.cells (entC ⟨x, some ⟨w1.heap.size, 0, none⟩, 0⟩).toArray 106 (0, 0)) := (by
          have h9 := Joins.block_setCell (i := 5) hx3 (.slice (some ⟨w1.heap.size, 0, none⟩) x.n (0))
          simpa [entC] using h9)
        have hm34 := mod_set (S := fun b => b = wr.heap.size) (w := w3) (b := wr.heap.size) rfl 5 (.slice (some ⟨w1.heap.size, 0, none⟩) x.n (0))
        have hz13 := hb13.size
        obtain ⟨w4, hw4⟩ : ∃ w4, w4 = w3.setCell ⟨wr.heap.size, 5, none⟩ (.slice (some ⟨w1.heap.size, 0, none⟩) x.n (0)) := ⟨_, rfl⟩
        rw [← hw4] at hx4 hm34 ⊢
        have hbr3 : Below wr.heap.size wr w3 := HB1.out.trans (hb13.mono (by omega))
        have hbr4 : Below wr.heap.size wr w4 := (by rw [hw4]; exact hbr3.setCell (p := ⟨wr.heap.size, 5, none⟩) (Nat.le_refl _) _)
        have hBR4 : ByteRow w4 (some ⟨w1.heap.size, 0, none⟩) x.n (0) x.dat := HBR.out.keep (fun g cs f hg => hm34.block g (Array.getElem?_eq_some_iff.1 hg).1 (fun e => (by
          rw [e, hx3] at hg
          injection hg with hg
          injection hg with _ e2 _
          exact absurd e2 (by decide))))
        have y0 : w4.cell? ⟨wr.heap.size, 0, none⟩ = some (.string x.path) := one_block hx4 0
        have y1 : w4.cell? ⟨wr.heap.size, 1, none⟩ = some (.int .u8 (x.kind : Int)) := one_block hx4 1
        have y2 : w4.cell? ⟨wr.heap.size, 2, none⟩ = some (.int .u16 (x.mode : Int)) := one_block hx4 2
        have y3 : w4.cell? ⟨wr.heap.size, 3, none⟩ = some (.int .u32 (x.uid : Int)) := one_block hx4 3
        have y4 : w4.cell? ⟨wr.heap.size, 4, none⟩ = some (.int .u32 (x.gid : Int)) := one_block hx4 4
        have y5 : w4.cell? ⟨wr.heap.size, 5, none⟩ = some (.slice (some ⟨w1.heap.size, 0, none⟩) x.n (0)) := one_block hx4 5
        have y6 : w4.cell? ⟨wr.heap.size, 6, none⟩ = some (.string x.to) := one_block hx4 6
        have HO4 := Lib.hid (HO.out.kept hbr4)
        have HT4 : Hid (∀ r ∈ L ++ [⟨x, some ⟨w1.heap.size, 0, none⟩, 0⟩], TwOk w4 r) := Lib.hid (fun r hr => (by
          rcases List.mem_append.1 hr with h9 | h9
          · exact (HT.out r h9).below hbr4
          · rw [List.mem_singleton] at h9
            subst h9
            exact hBR4))
        have hbw4 : Below w.heap.size w w4 := HBE.out.trans (hbr4.mono hwz)
        have hz4 := hbw4.size
        have HBW4 := Lib.hid hbw4
        clear hx3 hx4 hm34 hw4 hbr3 hbr4 hBR4 hbw4
        go_wp2_with (first
          | (at_builtin; refine app_ent rfl (.tmp 21) (.tmp 23) rfl w.heap.size R cp k L HKL.out rfl (World.ownsRow.alloc HO4.out _) ⟨x, some ⟨w1.heap.size, 0, none⟩, 0⟩ w4.heap.size 1 rfl (heap_alloc_new _ _) (by omega) (by simp; omega) ?_; intro g5 cp5 w5 ho5 hg5 hat5 hlt5; have HO5 := Lib.hid ho5; have HG5 := Lib.hid hg5; clear ho5 hg5 hat5)
          | fail)
        go_roundw
        case rel =>
          refine ⟨k + 1, some ⟨g5, 0, none⟩, cp5, L ++ [⟨x, some ⟨w1.heap.size, 0, none⟩, 0⟩], by omega, by go_num, rfl, by rw [List.map_append, HLT.out, HTK.out]; rfl, by rw [List.length_append, ← HKL.out]; rfl, HO5.out, fun r hr => ?_, ?_⟩
          · refine (HT4.out r hr).keep fun g cs f hg => ?_
            refine (HG5.out.block g (by have := (Array.getElem?_eq_some_iff.1 hg).1; simp; omega) (fun e => ?_)).trans (Below.heap_alloc _ _ _ (Array.getElem?_eq_some_iff.1 hg).1)
            cases hR : R with
            | none => rw [hR] at e; cases e
            | some ad2 =>
              have hO9 := HO4.out
              rw [hR] at e hO9
              rcases hO9.form with ⟨e9, _⟩ | ⟨g9, e9, _⟩
              · cases e9
              · injection e9 with e9
                subst e9
                obtain ⟨cur, e8, _⟩ := hO9.block
                simp at e
                rw [e, e8] at hg
                injection hg with hg
                injection hg with _ e2 _
                exact absurd e2 (by decide)
          · refine (HBW4.out.alloc hz4 _).grown HG5.out (by simp; omega) fun k' hk' => ?_
            rcases HO4.out.form with ⟨e9, _⟩ | ⟨g9, e9, h9, _⟩
            · rw [e9] at hk'; cases hk'
            · rw [e9] at hk'; simp at hk'; omega
        case measure => simp [intOf]; omega
    · obtain rfl : k = n := by omega
      have HLT2 : Hid (L.map EntR.ent = l) := Lib.hid (by rw [HLT.out, List.take_of_length_le (by rw [HN.out]; exact Nat.le_refl _)])
      go_wp2_with fail
      go_ret
      have hcap : l.length ≤ cp := by
        rw [← HN.out, HKL.out]
        rcases HO.out.form with ⟨_, e, e2⟩ | ⟨g, _, _, _, e⟩
        · rw [e]; exact Nat.zero_le _
        · exact e
      exact ⟨R, cp, by rw [← HN.out]; rfl, twins_done HLT2.out HO.out HT.out HSM.out, hcap, HBE.out⟩

end Go.Proofs.YtkkmcnngpahfaaaGreatDoor

namespace Go.Proofs.YtkkmcnngpahfaaaGreatDoor
open Go.RowKit Go.Sort
open Go.MapKept (Stamped)
set_option linter.unusedSimpArgs false
set_option linter.unusedVariables false

theorem cpool_any (c a fs m : Nat) (clock : Int) (w : World) (h : CacheSelf w c a fs m clock) : Calls Tryz.prog 59 #[.pointer (some ⟨c, 0, none⟩)] w fun e w' => e = .returned (.pointer (some ⟨a, 0, none⟩)) ∧ w = w' := by
  have c0 : w.cell? ⟨c, 0, none⟩ = some (.pointer (some ⟨a, 0, none⟩)) := one_block h 0
  clear h
  go_enter Tryz.func59, Tryz.ntmps59
  go_wp2_with fail
  go_ret
  exact ⟨rfl, rfl⟩

theorem cnew_any (a fs : Nat) (w : World) (S : Nat → Prop) (p : Pool) (h : PoolAt w S a p) : Calls Tryz.prog 26 #[.pointer (some ⟨a, 0, none⟩), .pointer (some ⟨fs, 0, none⟩)] w
    fun e w' => ∃ c m, e = .returned (.tuple #[.pointer (some ⟨c, 0, none⟩), .int .i64 0]) ∧ CacheAt w' S c a fs m 0 p [] ∧ Below w.heap.size w w' ∧ w.heap.size ≤ c ∧ w.heap.size ≤ m := by
  have HP := Lib.hid h
  clear h
  have hmm := @run_makeMap Tryz.prog
  go_enter Tryz.func26, Tryz.ntmps26
  go_wp2_with fail
  go_ret2
  have hb1 : Below w.heap.size w (w.alloc (.map #[] 0)) := (Below.refl _ _).alloc (Nat.le_refl _) _
  have hb : Below w.heap.size w ((w.alloc (.map #[] 0)).alloc (.cells #[.pointer (some ⟨a, 0, none⟩), .pointer (some ⟨fs, 0, none⟩), .map (some w.heap.size), .int .i64 0] 157)) := hb1.alloc (by simp) _
  have hl := HP.out.low
  refine ⟨w.heap.size + 1, w.heap.size, by simp, ⟨HP.out.below hb, ?_, ?_, fun e => by have := hl _ e; omega, fun e => by have := hl _ e; omega⟩, hb, by omega, Nat.le_refl _⟩
  · have := heap_alloc_new (w.alloc (.map #[] 0)) (.cells #[.pointer (some ⟨a, 0, none⟩), .pointer (some ⟨fs, 0, none⟩), .map (some w.heap.size), .int .i64 0] 157)
    simpa [CacheSelf] using this
  · refine ⟨#[], 0, ⟨?_, ?_, rfl, fun s hs => by cases hs⟩⟩
    · exact (Below.heap_alloc _ _ _ (by simp)).trans (heap_alloc_new w _)
    · exact Go.MapKept.stamped_empty 0

theorem tnew_nil (w : World) : Calls Tryz.prog 27 #[.pointer none] w fun e w' => e = .returned (.tuple #[.pointer none, .int .i64 2]) ∧ w = w' := by
  go_enter Tryz.func27, Tryz.ntmps27
  go_wp2_with fail
  go_ret2
  exact ⟨rfl, rfl⟩

theorem TakeRes.first {p p' : Pool} {L L' : List Slot} {r : Int} {f g : Nat} (h : TakeRes p L r f p' L') (hl : p.lowest = some g) : r = 0 ∧ f = g ∧ p' = p.takeAt g ∧ L' = L := by
  cases h with
  | free f h1 => rw [hl] at h1; injection h1 with h1; subst h1; exact ⟨rfl, rfl, rfl, rfl⟩
  | loose s h1 => rw [hl] at h1; cases h1
  | none h1 => rw [hl] at h1; cases h1

def TNewPost (w : World) (S : Nat → Prop) (c a fs m g : Nat) (clock : Int) (p : Pool) (L : List Slot) (e : Ending) (w' : World) : Prop :=
  ∃ t S', e = .returned (.tuple #[.pointer (some ⟨t, 0, none⟩), .int .i64 0]) ∧ CacheAt w' S' c a fs m clock (p.takeAt g) L ∧ TabSelf w' t c a g ∧ Mod (Both S m) w w' ∧ Out S S' w ∧ w.heap.size ≤ t ∧ ¬ S' t
set_option maxHeartbeats 1000000 in
theorem tnew_some (c a fs m g : Nat) (clock : Int) (w : World) (S : Nat → Prop) (p : Pool) (L : List Slot) (h : CacheAt w S c a fs m clock p L) (hl : p.lowest = some g) :
    Calls Tryz.prog 27 #[.pointer (some ⟨c, 0, none⟩)] w (TNewPost w S c a fs m g clock p L) := by
  have hcall := ctake_any c a fs m clock w S p L h
  have HC := Lib.hid hcall
  have HL := Lib.hid hl
  clear h hcall hl
  go_enter Tryz.func27, Tryz.ntmps27
  go_wp2_with fail
  refine HC.out.mono ?_
  rintro e w1 ⟨r, f, p', L', S', rfl, h1, h2, h3, h4⟩
  obtain ⟨rfl, rfl, rfl, rfl⟩ := h4.first HL.out
  have H1 := Lib.hid h1
  have H2 := Lib.hid h2
  have H3 := Lib.hid h3
  clear h1 h2 h3 h4
  go_wp2_with fail
  refine (cpool_any c a fs m clock _ H1.out.self).mono ?_
  rintro e w2 ⟨rfl, rfl⟩
  go_wp2_with fail
  go_ret2
  refine ⟨w1.heap.size, S', rfl, H1.out.below ((Below.refl _ _).alloc (Nat.le_refl _) _), heap_alloc_new _ _, H2.out.trans (fun b hb => .inr hb) (Mod.of ((Below.refl _ _).alloc (Nat.le_refl _) _)), H3.out, H2.out.size, fun e => by have := H1.out.pool.low _ e; omega⟩

end Go.Proofs.YtkkmcnngpahfaaaGreatDoor

namespace Go.Proofs.YtkkmcnngpahfaaaGreatDoor
open Go.RowKit Go.Sort
set_option linter.unusedSimpArgs false
set_option linter.unusedVariables false

/-- New of any number of frames, good or not. -/
theorem fnew_duo (N : Int) (w : World) (hN : N ≤ 64) (hdb : DB w) (hw0 : 0 < w.heap.size) :
    Calls Tryz.prog 25 #[.int .i64 N] w fun e w' => ∃ v h, e = .returned (.tuple #[.pointer v, .int .i64 h]) ∧ Below w.heap.size w w' := by
  by_cases h : N < 1
  · exact (fnew8_bad N w h).mono fun e w' ⟨h1, h2⟩ => ⟨_, _, h1, h2 ▸ Below.refl _ _⟩
  · obtain ⟨n, rfl⟩ : ∃ n : Nat, N = (n : Int) := ⟨N.toNat, by omega⟩
    exact (fnew_any n w (by omega) (by omega) hdb hw0).mono fun e w' ⟨a, S, h1, h2, h3, _⟩ => ⟨_, _, h1, h3⟩

/-- What made's arguments are: entries that are not too many, not too great. -/
structure In8 (w : World) (P : Option Addr) (n : Nat) (l : List Ent) : Prop where
  ents : EntsIn w P l
  len : n = l.length
  few : n ≤ 64
  small : ∀ x ∈ l, x.n ≤ 524288 ∧ x.path.size ≤ 524288 ∧ x.to.size ≤ 524288
theorem EntsIn.bytes {w : World} {P : Option Addr} {l : List Ent} (h : EntsIn w P l) : ∀ x ∈ l, ∀ i, x.dat i < 256 := fun x hx => by
  obtain ⟨j, hj, e⟩ := List.mem_iff_getElem.1 hx
  obtain ⟨b, off, A, c, h1, h2, h3, h4, h5⟩ := h j x (by rw [List.getElem?_eq_getElem hj, e])
  exact h5.dat

end Go.Proofs.YtkkmcnngpahfaaaGreatDoor

namespace Go.Proofs.YtkkmcnngpahfaaaGreatDoor
open Go.RowKit Go.Sort
set_option linter.unusedSimpArgs false
set_option linter.unusedVariables false

theorem cntL_take_succ {l : List Nat} {k x f : Nat} (h : l[k]? = some x) : cntL (l.take (k + 1)) f = cntL (l.take k) f + if x = f then 1 else 0 := by
  unfold cntL
  have e : l.take (k + 1) = l.take k ++ [x] := by
    rw [List.take_add_one, h]
    rfl
  rw [e, List.count_append, List.count_singleton]
  by_cases e : x = f
  · subst e; simp
  · simp [e]
end Go.Proofs.YtkkmcnngpahfaaaGreatDoor

namespace Go.Proofs.YtkkmcnngpahfaaaGreatDoor
open Go.RowKit Go.Sort
set_option linter.unusedSimpArgs false
set_option linter.unusedVariables false

/-- A table over a cache, and what is held; all of it lies from B on, the files below B. -/
structure OwnAt (w : World) (B o a c fs m t root : Nat) (clock : Int) (S : Nat → Prop) (p : Pool) (L : List Slot) (H : Option Addr) (cap : Nat) (hold : List Nat) : Prop where
  self : w.heap[o]? = some (.cells #[.pointer (some ⟨a, 0, none⟩), .pointer (some ⟨c, 0, none⟩), .pointer (some ⟨t, 0, none⟩), .slice H hold.length cap] 57 (0, 0))
  cache : CacheAt w S c a fs m clock p L
  tab : TabSelf w t c a root
  files : FilesAt w fs 8201 fileDat
  low : ∀ b, S b → B ≤ b
  lows : B ≤ o ∧ B ≤ c ∧ B ≤ m ∧ B ≤ t
  noS : ¬ S o ∧ ¬ S t
  ne : o ≠ c ∧ o ≠ m ∧ o ≠ t ∧ t ≠ m ∧ t ≠ c
def MadePost (w : World) (n : Nat) (e : Ending) (w' : World) : Prop :=
  ∃ B o a c fs m t S, e = .returned (.tuple #[.pointer (some ⟨o, 0, none⟩), .bool true]) ∧ OwnAt w' B o a c fs m t 0 0 S ((fresh n).takeAt 0) [] none 0 [] ∧ Below w.heap.size w w' ∧ w.heap.size ≤ B ∧ (∃ w1, w1.heap.size = B ∧ FilesAt w1 fs 8201 fileDat ∧ Below B w1 w')

theorem FilesAt.below {w w' : World} {B fs n : Nat} {dat : Nat → Nat} (h : FilesAt w fs n dat) (hB : w.heap.size = B) (hb : Below B w w') : FilesAt w' fs n dat := by
  subst hB
  obtain ⟨d, x, g, nb, c2, cd, h1, h2, h3, ⟨m, h4⟩, h5, h6, h7, h8⟩ := h
  refine ⟨d, x, g, nb, c2, cd, (hb.block _ (Array.getElem?_eq_some_iff.1 h1).1).trans h1, (hb.cell h7.1).trans h2, (hb.cell h7.1).trans h3, ⟨m, (hb.block _ (Array.getElem?_eq_some_iff.1 h4).1).trans h4⟩, (hb.block _ (Array.getElem?_eq_some_iff.1 h5).1).trans h5, h6.below hb (fun x hx => by injection hx with hx; subst hx; exact h7.2), ⟨Nat.lt_of_lt_of_le h7.1 hb.size, Nat.lt_of_lt_of_le h7.2 hb.size⟩, h8⟩

set_option maxRecDepth 100000 in
set_option maxHeartbeats 2000000 in
theorem made_any (n : Nat) (w : World) (h1 : 1 ≤ n) (h2 : n ≤ 1024) (hdb : DB w) (hw0 : 0 < w.heap.size) : Calls Tryz.prog 7 #[.int .i64 (n : Int)] w (MadePost w n) := by
  have HDB := Lib.hid hdb
  clear hdb
  go_enter Tryz.func7, Tryz.ntmps7
  go_wp2_with (first
    | (go_at_call 24; refine (file_any _).mono ?_; rintro e w1 ⟨b, g, rfl, hE, hA, hg, hb1⟩; have HE := Lib.hid hE; have HA := Lib.hid hA; have HB1 := Lib.hid hb1; clear hE hA hb1)
    | (go_at_call 23; refine (vnew_a b 8201 8201 ⟨g, 0, none⟩ fileDat _ HE.out HA.out hg (by omega) (by omega)).mono ?_; rintro e w2 ⟨fs, rfl, hF, hb2⟩; have HF := Lib.hid hF; have hB2 := HB1.out.trans (hb2.mono HB1.out.size); have HB2 := Lib.hid hB2; have hdb2 : DB w2 := HDB.out.same (hB2.block 0 hw0); have HDB2 := Lib.hid hdb2; have hz2 := hB2.size; clear hF hb2 hB2 hdb2)
    | (go_at_call 25; refine (fnew_any n _ h1 h2 HDB2.out (by omega)).mono ?_; rintro e w3 ⟨a, S, rfl, hP, hb3, hS3⟩; have HP := Lib.hid hP; have HB3 := Lib.hid hb3; have HS3 := Lib.hid hS3; have hz3 := hb3.size; clear hP hb3 hS3)
    | (go_at_call 26; refine (cnew_any a fs _ S (fresh n) HP.out).mono ?_; rintro e w4 ⟨c, m, rfl, hC, hb4, hc4, hm4⟩; have HC := Lib.hid hC; have HB4 := Lib.hid hb4; have hz4 := hb4.size; clear hC hb4)
    | (go_at_call 27; refine (tnew_some c a fs m 0 0 _ S (fresh n) [] HC.out (fresh_lowest h1)).mono ?_; rintro e w5 ⟨t, S', rfl, hC5, hT5, hM5, hO5, ht5, hn5⟩; have HC5 := Lib.hid hC5; have HT5 := Lib.hid hT5; have HM5 := Lib.hid hM5; have HO5 := Lib.hid hO5; have HN5 := Lib.hid hn5; have hz5 := hM5.size; clear hC5 hT5 hM5 hO5 hn5))
  go_ret2
  have hC5 := HC5.out
  have hT5 := HT5.out
  have hl4 := HC.out.lts
  have ht5' : t < w5.heap.size := (Array.getElem?_eq_some_iff.1 hT5).1
  have hl5 := hC5.pool.low
  have hS4 : ∀ b, Both S m b → w2.heap.size ≤ b := fun b hb => hb.elim (HS3.out b) (fun e => by omega)
  have hS5 : ∀ b, S' b → w2.heap.size ≤ b := fun b hb => (HO5.out b hb).elim (HS3.out b) (fun h => by omega)
  have h24 : Below w2.heap.size w2 w4 := HB3.out.trans (HB4.out.mono hz3)
  have h25 : Below w2.heap.size w2 w5 := h24.trans (HM5.out.below hS4 (by omega))
  have h56 := (Below.refl w5.heap.size w5).alloc (Nat.le_refl _) (.cells #[.pointer (some ⟨a, 0, none⟩), .pointer (some ⟨c, 0, none⟩), .pointer (some ⟨t, 0, none⟩), .slice none 0 0] 57)
  have h26 : Below w2.heap.size w2 (w5.alloc (.cells #[.pointer (some ⟨a, 0, none⟩), .pointer (some ⟨c, 0, none⟩), .pointer (some ⟨t, 0, none⟩), .slice none 0 0] 57)) := h25.trans (h56.mono (by omega))
  exact ⟨w2.heap.size, w5.heap.size, a, c, fs, m, t, S', rfl, ⟨heap_alloc_new _ _, hC5.below h56, (h56.block t ht5').trans hT5, HF.out.below rfl h26, hS5, ⟨by omega, by omega, by omega, by omega⟩, ⟨fun e => by have := hl5 _ e; omega, HN5.out⟩, ⟨by omega, by omega, by omega, by omega, by omega⟩⟩, HB2.out.trans (h26.mono hz2), hz2, w2, rfl, HF.out, h26⟩

end Go.Proofs.YtkkmcnngpahfaaaGreatDoor

namespace Go.Proofs.YtkkmcnngpahfaaaGreatDoor
open Go.RowKit Go.Sort
set_option linter.unusedSimpArgs false
set_option linter.unusedVariables false

theorem cfiles_any (c a fs m : Nat) (clock : Int) (w : World) (h : CacheSelf w c a fs m clock) : Calls Tryz.prog 60 #[.pointer (some ⟨c, 0, none⟩)] w fun e w' => e = .returned (.pointer (some ⟨fs, 0, none⟩)) ∧ w = w' := by
  have c1 : w.cell? ⟨c, 1, none⟩ = some (.pointer (some ⟨fs, 0, none⟩)) := one_block h 1
  clear h
  go_enter Tryz.func60, Tryz.ntmps60
  go_wp2_with fail
  go_ret
  exact ⟨rfl, rfl⟩
theorem ptr_equalIn (d : Nat) (t u : TypeId) (n : Nat) (x : Addr) (W : World) (h : Tryz.prog.underlying t = some (.pointer u)) (hz : ∀ W, (Go.sizeOf u).run Tryz.prog W = .ok n W) : (Op.equalIn (d + 1) t (.pointer (some x)) (.pointer (some x))).run Tryz.prog W = .ok true W := by
  simp [Op.equalIn, run_underlying h, hz, Result.andThen, sameAddr]
theorem ptr_equal (t u : TypeId) (n : Nat) (x : Addr) (W : World) (h : Tryz.prog.underlying t = some (.pointer u)) (hz : ∀ W, (Go.sizeOf u).run Tryz.prog W = .ok n W) : (Op.equal t (.pointer (some x)) (.pointer (some x))).run Tryz.prog W = .ok true W := ptr_equalIn 9999 t u n x W h hz
theorem ptr_neq (t u : TypeId) (n : Nat) (x : Addr) (W : World) (h : Tryz.prog.underlying t = some (.pointer u)) (hz : ∀ W, (Go.sizeOf u).run Tryz.prog W = .ok n W) : (binOp .neq t (.pointer (some x)) (.pointer (some x))).run Tryz.prog W = .ok (.bool false) W := by
  simp only [binOp]
  simp [ptr_equal t u n x W h hz]
theorem pool_neq (a : Nat) (W : World) : (binOp .neq 52 (.pointer (some ⟨a, 0, none⟩)) (.pointer (some ⟨a, 0, none⟩))).run Tryz.prog W = .ok (.bool false) W := ptr_neq _ _ _ _ W Tryz.underlying52 Tryz.sizeOf123
theorem files_neq (a : Nat) (W : World) : (binOp .neq 63 (.pointer (some ⟨a, 0, none⟩)) (.pointer (some ⟨a, 0, none⟩))).run Tryz.prog W = .ok (.bool false) W := ptr_neq _ _ _ _ W Tryz.underlying63 Tryz.sizeOf153
theorem Small.nil : Small [] := fun s hs => by cases hs
/-- Page 0 of a file of one byte, 7. -/
theorem read_seven (w : World) (fs : Nat) (hF : FilesAt w fs 1 fun _ => 7) : ReadIs w fs 1 (0 * 4096) 0 1 fun _ => 7 := by
  obtain ⟨d, x, g, nb, c2, cd, hF⟩ := hF
  refine (fread_one d x g fs nb c2 cd 1 0 (fun _ => 7) w hF (by omega) (by omega)).mono ?_
  rintro e w1 ⟨A, k, cap, rfl, hk, hA, hAn, hb⟩
  obtain rfl : k = 1 := by omega
  exact ⟨some A, cap, rfl, hA, fun ad e h0 => by injection e with e; subst e; exact hAn h0, hb⟩
/-- What Get of that page comes to, the cache being new. -/
theorem get_seven {p' : Pool} {L' : List Slot} {r clock' : Int} {f : Nat} (h : GetRes 1 0 0 1 (fun _ => 7) (fresh 2) [] 0 r f p' L' clock') :
    r = 0 ∧ f = 0 ∧ L' = [⟨1, 0, 0, 1⟩] ∧ p'.n = 2 ∧ p'.cnt 0 = 1 ∧ p'.dat 0 0 = 7 ∧ p'.dat 0 1 = 0 ∧ clock' = 1 := by
  cases h with
  | bad h => omega
  | err _ _ h => exact absurd rfl h
  | hit s _ _ _ h => simp at h
  | full _ _ _ _ ht =>
    obtain ⟨h, _⟩ := ht.first (fresh_lowest (by omega : 1 ≤ 2))
    cases h
  | miss f p1 L1 _ _ _ _ ht =>
    obtain ⟨_, rfl, rfl, rfl⟩ := ht.first (fresh_lowest (by omega : 1 ≤ 2))
    exact ⟨rfl, rfl, rfl, rfl, rfl, rfl, rfl, rfl⟩
theorem count_seven {p : Pool} (hn : p.n = 2) (hc : p.cnt 0 = 1) : countB p ((0 : Nat) : Int) = 1 := by
  have ht : takenB p ((0 : Nat) : Int) = true := by rw [takenB_nat]; exact decide_eq_true ⟨by omega, by omega⟩
  unfold countB
  rw [if_pos ht]
  exact hc

set_option maxRecDepth 100000 in
set_option maxHeartbeats 4000000 in
theorem works8_any (w : World) (hdb : DB w) (hw0 : 0 < w.heap.size) : Calls Tryz.prog 14 #[] w fun e w' => e = .returned (.bool true) ∧ Below w.heap.size w w' := by
  obtain ⟨w0, hw0'⟩ : ∃ w0, w0 = ((w.alloc (.cells #[.int .u8 7] 5)).alloc (.cells #[.string ⟨#[47, 97]⟩, .int .u8 1, .int .u16 420, .int .u32 0, .int .u32 0, .slice (some ⟨w.heap.size, 0, none⟩) 1 1, .string ⟨#[]⟩] 106)) := ⟨_, rfl⟩
  have hb0 : Below w.heap.size w w0 := by rw [hw0']; exact ((Below.refl _ _).alloc (Nat.le_refl _) _).alloc (by simp) _
  have hs0 : w0.heap.size = w.heap.size + 1 + 1 := by rw [hw0']; simp
  have hE : w0.heap[w.heap.size + 1]? = some (.cells #[.string ⟨#[47, 97]⟩, .int .u8 1, .int .u16 420, .int .u32 0, .int .u32 0, .slice (some ⟨w.heap.size, 0, none⟩) 1 1, .string ⟨#[]⟩] 106 (0, 0)) := by
    rw [hw0']
    have e : (w.alloc (.cells #[.int .u8 7] 5)).heap.size = w.heap.size + 1 := by simp
    rw [← e]
    exact heap_alloc_new _ _
  have hD : w0.heap[w.heap.size]? = some (.cells #[.int .u8 7] 5 (0, 0)) := by rw [hw0']; exact (Below.heap_alloc _ _ _ (by simp)).trans (heap_alloc_new w _)
  have hA : BytesV w0 (some ⟨w.heap.size, 0, none⟩) 1 fun _ => 7 := fun _ => ⟨_, rfl, fun j hj => by
    obtain rfl : j = 0 := by omega
    exact one_block hD 0⟩
  have hnew := vnew_a (w.heap.size + 1) 1 1 ⟨w.heap.size, 0, none⟩ (fun _ => 7) w0 hE hA (by show w.heap.size < _; omega) (by omega) (by omega)
  have HNEW := Lib.hid hnew
  have HW0 := Lib.hid hw0'
  have HB0 := Lib.hid hb0
  have HDB := Lib.hid hdb
  clear hnew hw0' hb0 hdb hE hD hA
  have hpn := pool_neq
  have hfn := files_neq
  go_enter Tryz.func14, Tryz.ntmps14
  go_upto_region 8 with (first
    | (go_at_call 23; rw [← HW0.out]; refine (HNEW.out).mono ?_; rintro e w1 ⟨fs, rfl, hF, hb1⟩; have hB1 := HB0.out.trans (hb1.mono HB0.out.size); have HF := Lib.hid hF; have HB1 := Lib.hid hB1; have HDB1 := Lib.hid (HDB.out.same (hB1.block 0 hw0)); have hz1 := hB1.size; clear hF hb1 hB1)
    | (go_at_call 25; refine (fnew_any 2 _ (by omega) (by omega) HDB1.out (by omega)).mono ?_; rintro e w2 ⟨a, S, rfl, hP, hb2, hS2⟩; have HP := Lib.hid hP; have HB2 := Lib.hid hb2; have HS2 := Lib.hid hS2; have hz2 := hb2.size; clear hP hb2 hS2)
    | (go_at_call 26; refine (cnew_any a fs _ S (fresh 2) HP.out).mono ?_; rintro e w3 ⟨c, m, rfl, hC, hb3, hc3, hm3⟩; have HC := Lib.hid hC; have HB3 := Lib.hid hb3; have hz3 := hb3.size; clear hC hb3)
    | (go_at_call 59; refine (cpool_any c a fs m 0 _ HC.out.self).mono ?_; rintro e w4 ⟨rfl, rfl⟩)
    | (go_at_call 60; refine (cfiles_any c a fs m 0 _ HC.out.self).mono ?_; rintro e w4 ⟨rfl, rfl⟩))
  have hb13 : Below w1.heap.size w1 w3 := HB2.out.trans (HB3.out.mono hz2)
  have hget := get_new c a fs m 1 1 0 0 0 (fun _ => 7) w3 S (fresh 2) [] HC.out (by omega) (by omega) rfl (read_seven w3 fs (HF.out.below rfl hb13)) (fun _ => by omega) (by omega) ⟨by omega, by omega⟩ rfl
  have HG := Lib.hid hget
  clear hget
  go_wp2_with fail
  refine (HG.out).mono ?_
  rintro e w4 ⟨r, f, p4, L4, clk, S4, rfl, hC4, hm4, ho4, hres⟩
  obtain ⟨rfl, rfl, rfl, hn4, hc4, hd0, hd1, rfl⟩ := get_seven hres
  have hld := load_yes a 0 0 2 w4 S4 p4 hC4.pool (by omega) (by omega) (by omega) (by omega)
  have hB4 : Below w1.heap.size w1 w4 := hb13.trans (hm4.below (fun b hb => by
    rcases hb with e | e | e
    · exact HS2.out b e
    · omega
    · omega) (by omega))
  have HLD := Lib.hid hld
  have HC4 := Lib.hid hC4
  have HB4 := Lib.hid hB4
  have hz4 := hm4.size
  clear hld hC4 hB4 hm4 ho4 hres
  go_wp2_with fail
  refine (HLD.out).mono ?_
  rintro e w5 ⟨rfl, hA5, hl5, hb5⟩
  have hC5 := HC4.out.below hb5
  have hsl := slots_any c a fs m 1 w5 _ hC5.self hC5.slots (by simp) (fun s hs => by
    obtain rfl := List.mem_singleton.1 hs
    exact ⟨rfl, rfl⟩)
  have HSL := Lib.hid hsl
  have HC5 := Lib.hid hC5
  have HA5 := Lib.hid hA5
  have HB5 := Lib.hid hb5
  have hz5 := hb5.size
  clear hsl hC5 hA5 hb5
  go_wp2_with fail
  refine (HSL.out).mono ?_
  rintro e w6 ⟨A, cap, L6, rfl, hO6, hp6, _, hb6⟩
  obtain rfl := List.perm_singleton.1 hp6
  rcases hO6.form with ⟨_, h9, _⟩ | ⟨g, cur, rfl, hg, hgl, hcap, _⟩
  · cases h9
  have r0 : w6.cell? ⟨g, 0, none⟩ = some (.int .i64 1) := hO6.cell (k := 0) (j := 0) (by omega) rfl
  have r2 : w6.cell? ⟨g, 2, none⟩ = some (.int .i64 0) := hO6.cell (k := 0) (j := 2) (by omega) rfl
  have d0 : w6.cell? ⟨w4.heap.size, 0, none⟩ = some (.int .u8 7) := (hb6.cell (p := ⟨w4.heap.size, 0, none⟩) hl5).trans (by
    rw [row_cell HA5.out (by omega)]
    simp only [Nat.zero_add, hd0]
    rfl)
  have d1 : w6.cell? ⟨w4.heap.size, 1, none⟩ = some (.int .u8 0) := (hb6.cell (p := ⟨w4.heap.size, 1, none⟩) hl5).trans (by
    rw [row_cell HA5.out (by omega)]
    simp only [Nat.zero_add, hd1]
    rfl)
  have hct := count_any a ((0 : Nat) : Int) w6 S4 p4 (HC5.out.pool.below hb6)
  rw [count_seven hn4 hc4] at hct
  have HCT := Lib.hid hct
  have HB6 := Lib.hid hb6
  clear hct hb6 hO6 hp6
  go_wp2_with (first
    | (go_at_call 22; refine (HCT.out).mono ?_; rintro e w7 ⟨rfl, rfl⟩))
  go_ret
  have h14 := HB4.out
  have h15 : Below w1.heap.size w1 w5 := h14.trans (HB5.out.mono h14.size)
  have h16 : Below w1.heap.size w1 w6 := h15.trans (HB6.out.mono h15.size)
  exact ⟨rfl, HB1.out.trans (h16.mono HB1.out.size)⟩

end Go.Proofs.YtkkmcnngpahfaaaGreatDoor

namespace Go.Proofs.YtkkmcnngpahfaaaGreatDoor
open Go.ChangeShapes Go.WideShapes Go.ChangeAt Go.RowKit Go.Deep Go.Joins
set_option linter.unusedSimpArgs false
set_option linter.unusedVariables false

theorem add_flat {b off i j n : Nat} : (⟨b, off, none⟩ : Addr).add (i * n + j) = ⟨b, off + i * n + j, none⟩ := by
  unfold Addr.add
  split
  · next h =>
    have h1 : i * n = 0 := by omega
    have h2 : j = 0 := by omega
    simp [h1, h2]
  · show (⟨b, off + (i * n + j), none⟩ : Addr) = _
    rw [Nat.add_assoc]

theorem op8_cells : Tryz.prog.cellsOf 50 = 4 := by kernel_rfl
theorem op8_one : oneCellFields Tryz.prog (Tryz.prog.fieldsOf 50) = true := by kernel_rfl
theorem op8_und : Tryz.prog.underlying 50 = some (.struct (Tryz.prog.fieldsOf 50)) := by kernel_rfl
theorem op8_fs : (Tryz.prog.fieldsOf 50).size = 4 := by kernel_rfl
theorem op8_f0 : ((Tryz.prog.fieldsOf 50)[0]?).map (·.type) = some 3 := by kernel_rfl
theorem op8_f1 : ((Tryz.prog.fieldsOf 50)[1]?).map (·.type) = some 3 := by kernel_rfl
theorem op8_f2 : ((Tryz.prog.fieldsOf 50)[2]?).map (·.type) = some 3 := by kernel_rfl
theorem op8_f3 : ((Tryz.prog.fieldsOf 50)[3]?).map (·.type) = some 3 := by kernel_rfl

def ArgO8 (w : World) (a : Option Addr) (len cap : Nat) : Prop := len ≤ 9223372036854775807 ∧ (len ≤ 300 → ∃ l : List Op8, OSl8 w w.heap.size a len cap l)
def ArgF8 (w : World) (P : Option Addr) (n cap : Nat) : Prop := n ≤ 9223372036854775807 ∧ (n ≤ 300 → ∃ l : List Ent, l.length = n ∧ EntsIn w P l)

section
variable {H : Type} {enc : TypeId × Value → H} {w : World} {base : Nat} {spare : Nat → Bool} {held : Bool}
set_option maxRecDepth 100000 in
theorem open_op8s {a : Option Addr} {len cap : Nat} {d : DataW H} {p : List MemPlace} (h : DataW.Trod enc Tryz.prog w base spare held 43 (.slice a len cap) d p) : ArgO8 w a len cap := by
  obtain ⟨fuel, hf⟩ := h
  rcases open_slice_fields Tryz.underlying43 op8_und op8_one (by rw [op8_cells, op8_fs]) hf with ⟨hcs, _⟩ | ⟨x, l, c, m, D, Pl, hcs, _, hl, hm, hmm, _, hi⟩
  · simp [Value.cells] at hcs
    obtain ⟨rfl, rfl, rfl⟩ := hcs
    exact ⟨by omega, fun _ => ⟨[], OSl8.nil _ _⟩⟩
  · simp [Value.cells] at hcs
    obtain ⟨rfl, rfl, rfl⟩ := hcs
    have hlm : len ≤ m := by rw [hmm]; split <;> omega
    refine ⟨by unfold maxLen at hm; omega, fun h300 => ?_⟩
    rcases Nat.eq_zero_or_pos len with rfl | hpos
    · exact ⟨[], rfl, hl, by omega, fun k r h => by simp at h, fun r h => by simp at h⟩
    have hsp : x.spot = none := by
      obtain ⟨ys, n, _, _, _, hfl⟩ := hi 0 (by omega)
      rw [op8_fs] at hfl
      obtain ⟨x0, c0, w0⟩ := field_int op8_f0 Tryz.underlying3 hfl
      have h1 := World.cell?_spot c0
      simpa [Addr.add] using h1
    have key : ∀ i, i < len → ∃ r : Op8, r.Ok ∧ ∃ b off, x = ⟨b, off, none⟩ ∧ b < w.heap.size ∧ OpAt8 w b (off + i * 4) r := by
      intro i hil
      obtain ⟨ys, n, _, _, _, hfl⟩ := hi i (by omega)
      rw [op8_fs] at hfl
      obtain ⟨x0, c0, w0⟩ := field_int op8_f0 Tryz.underlying3 hfl
      obtain ⟨x1, c1, w1⟩ := field_int op8_f1 Tryz.underlying3 hfl
      obtain ⟨x2, c2, w2⟩ := field_int op8_f2 Tryz.underlying3 hfl
      obtain ⟨x3, c3, w3⟩ := field_int op8_f3 Tryz.underlying3 hfl
      obtain ⟨b, off, sp⟩ := x
      obtain rfl : sp = none := hsp
      rw [add_flat] at c0 c1 c2 c3
      exact ⟨⟨x0, x1, x2, x3⟩, ⟨w0, w1, w2, w3⟩, b, off, rfl, World.block_lt_of_cell? w _ c0, ⟨c0, c1, c2, c3⟩⟩
    obtain ⟨lst, hlen, hall⟩ := list_of (P := fun i r => Op8.Ok r ∧ ∃ b off, x = ⟨b, off, none⟩ ∧ b < w.heap.size ∧ OpAt8 w b (off + i * 4) r) len key
    refine ⟨lst, hlen, hl, by omega, fun k r hr => ?_, fun r hr => ?_⟩
    · obtain ⟨_, b, off, hx, hb, hra⟩ := hall k r hr
      exact ⟨b, off, by rw [hx], hb, hra⟩
    · obtain ⟨k, hk, e⟩ := List.mem_iff_getElem.1 hr
      exact (hall k r (by rw [List.getElem?_eq_getElem hk, e])).1

theorem ent_cells : Tryz.prog.cellsOf 106 = 7 := by kernel_rfl
theorem ent_one : oneCellFields Tryz.prog (Tryz.prog.fieldsOf 106) = true := by kernel_rfl
theorem ent_und : Tryz.prog.underlying 106 = some (.struct (Tryz.prog.fieldsOf 106)) := by kernel_rfl
theorem ent_fs : (Tryz.prog.fieldsOf 106).size = 7 := by kernel_rfl
theorem ent_f0 : ((Tryz.prog.fieldsOf 106)[0]?).map (·.type) = some 9 := by kernel_rfl
theorem ent_f1 : ((Tryz.prog.fieldsOf 106)[1]?).map (fun f => Tryz.prog.underlying f.type) = some (some (.int .u8)) := by kernel_rfl
theorem ent_f2 : ((Tryz.prog.fieldsOf 106)[2]?).map (fun f => Tryz.prog.underlying f.type) = some (some (.int .u16)) := by kernel_rfl
theorem ent_f3 : ((Tryz.prog.fieldsOf 106)[3]?).map (fun f => Tryz.prog.underlying f.type) = some (some (.int .u32)) := by kernel_rfl
theorem ent_f4 : ((Tryz.prog.fieldsOf 106)[4]?).map (fun f => Tryz.prog.underlying f.type) = some (some (.int .u32)) := by kernel_rfl
theorem ent_f5 : ((Tryz.prog.fieldsOf 106)[5]?).map (·.type) = some 99 := by kernel_rfl
theorem ent_f6 : ((Tryz.prog.fieldsOf 106)[6]?).map (·.type) = some 9 := by kernel_rfl
theorem u8_cells1 : Tryz.prog.cellsOf 5 = 1 := by kernel_rfl
theorem field_int2 {n fuel : Nat} {j : Nat} {k : IntKind} {fs : Array Field} (hf : (fs[j]?).map (fun f => Tryz.prog.underlying f.type) = some (some (.int k))) {a : Addr} {ys : List (DataW H × List MemPlace)}
    (h : ∀ (j : Nat) (f : Field), fs[j]? = some f → ∃ (v : Value) (y : DataW H × List MemPlace), w.cell? (a.add (n + j)) = some v ∧ ys[j]? = some y ∧ DataW.trod enc Tryz.prog w base spare held fuel f.type [v] = some y) :
    ∃ x : Int, w.cell? (a.add (n + j)) = some (.int k x) ∧ (Lit.int k x).wf = true := by
  obtain ⟨f, hf1, hf2⟩ := Option.map_eq_some_iff.1 hf
  obtain ⟨v, y, hc, _, htr⟩ := h j f hf1
  obtain ⟨x, hx, _, hw⟩ := DataW.trod_int hf2 htr
  simp at hx
  subst hx
  exact ⟨x, hc, hw⟩
theorem field_string {n fuel : Nat} {j : Nat} {fs : Array Field} (hf : (fs[j]?).map (·.type) = some 9) {a : Addr} {ys : List (DataW H × List MemPlace)}
    (h : ∀ (j : Nat) (f : Field), fs[j]? = some f → ∃ (v : Value) (y : DataW H × List MemPlace), w.cell? (a.add (n + j)) = some v ∧ ys[j]? = some y ∧ DataW.trod enc Tryz.prog w base spare held fuel f.type [v] = some y) :
    ∃ x : ByteArray, w.cell? (a.add (n + j)) = some (.string x) ∧ x.size ≤ 9223372036854775807 := by
  obtain ⟨f, hf1, hf2⟩ := Option.map_eq_some_iff.1 hf
  obtain ⟨v, y, hc, _, htr⟩ := h j f hf1
  rw [hf2] at htr
  obtain ⟨x, hx, _, hw⟩ := DataW.trod_string Tryz.underlying9 htr
  simp at hx
  subst hx
  exact ⟨x, hc, by unfold maxLen at hw; omega⟩
theorem field_bytes {n fuel : Nat} {j : Nat} {fs : Array Field} (hf : (fs[j]?).map (·.type) = some 99) {a : Addr} {ys : List (DataW H × List MemPlace)}
    (h : ∀ (j : Nat) (f : Field), fs[j]? = some f → ∃ (v : Value) (y : DataW H × List MemPlace), w.cell? (a.add (n + j)) = some v ∧ ys[j]? = some y ∧ DataW.trod enc Tryz.prog w base spare held fuel f.type [v] = some y) :
    ∃ (A : Option Addr) (k c : Nat) (dat : Nat → Nat), w.cell? (a.add (n + j)) = some (.slice A k c) ∧ k ≤ 9223372036854775807 ∧ (∀ i, dat i < 256) ∧ BytesV w A k dat ∧ SliceOk A k c := by
  obtain ⟨f, hf1, hf2⟩ := Option.map_eq_some_iff.1 hf
  obtain ⟨v, y, hc, _, htr⟩ := h j f hf1
  rw [hf2] at htr
  rcases open_ints Tryz.underlying99 Tryz.underlying5 u8_cells1 htr with ⟨hx, _⟩ | ⟨ad, len, cap, zs, hx, _, hl, hm, hz, _, hcell, hwf⟩
  · simp at hx
    subst hx
    exact ⟨none, 0, 0, fun _ => 0, hc, by omega, fun _ => by show 0 < 256; omega, fun h => by omega, fun _ => ⟨rfl, rfl⟩⟩
  · simp at hx
    subst hx
    have hr := range_u8 hwf
    have hlz : len ≤ zs.length := by rw [hz]; split <;> omega
    refine ⟨some ad, len, cap, fun i => (zs[i]?.getD 0).toNat, hc, by unfold maxLen at hm; omega, fun i => by have := hr i; show (zs[i]?.getD 0).toNat < 256; omega, fun _ => ⟨ad, rfl, fun i hi => ?_⟩, fun e => by cases e⟩
    have := hr i
    rw [hcell i (by omega), List.getD_eq_getElem?_getD]
    have e9 : zs[i]?.getD 0 = ((zs[i]?.getD 0).toNat : Int) := by omega
    exact congrArg (fun z => some (Value.int .u8 z)) e9

set_option maxRecDepth 100000 in
theorem open_ents {a : Option Addr} {len cap : Nat} {x : DataW H × List MemPlace} {fuel : Nat} (hf : DataW.trod enc Tryz.prog w base spare held fuel 40 [.slice a len cap] = some x) : ArgF8 w a len cap := by
  rcases open_slice_fields Tryz.underlying40 ent_und ent_one (by rw [ent_cells, ent_fs]) hf with ⟨hcs, _⟩ | ⟨x, l, c, m, D, Pl, hcs, _, hl, hm, hmm, _, hi⟩
  · simp at hcs
    obtain ⟨rfl, rfl, rfl⟩ := hcs
    exact ⟨by omega, fun _ => ⟨[], rfl, fun j x h => by simp at h⟩⟩
  · simp at hcs
    obtain ⟨rfl, rfl, rfl⟩ := hcs
    have hlm : len ≤ m := by rw [hmm]; split <;> omega
    refine ⟨by unfold maxLen at hm; omega, fun h300 => ?_⟩
    rcases Nat.eq_zero_or_pos len with rfl | hpos
    · exact ⟨[], rfl, fun k r h => by simp at h⟩
    have hsp : x.spot = none := by
      obtain ⟨ys, n, _, _, _, hfl⟩ := hi 0 (by omega)
      rw [ent_fs] at hfl
      obtain ⟨x0, c0, w0⟩ := field_string ent_f0 hfl
      have h1 := World.cell?_spot c0
      simpa [Addr.add] using h1
    have key : ∀ i, i < len → ∃ r : Ent, ∃ b off A c, x = ⟨b, off, none⟩ ∧ EntCell w b (off + i * 7) r A c ∧ BytesV w A r.n r.dat ∧ SliceOk A r.n c ∧ EntFit r := by
      intro i hil
      obtain ⟨ys, n, _, _, _, hfl⟩ := hi i (by omega)
      rw [ent_fs] at hfl
      obtain ⟨x0, c0, w0⟩ := field_string ent_f0 hfl
      obtain ⟨x1, c1, w1⟩ := field_int2 ent_f1 hfl
      obtain ⟨x2, c2, w2⟩ := field_int2 ent_f2 hfl
      obtain ⟨x3, c3, w3⟩ := field_int2 ent_f3 hfl
      obtain ⟨x4, c4, w4⟩ := field_int2 ent_f4 hfl
      obtain ⟨A, k, cc, dat, c5, hk, hd, hB, hok⟩ := field_bytes ent_f5 hfl
      obtain ⟨x6, c6, w6⟩ := field_string ent_f6 hfl
      obtain ⟨b, off, sp⟩ := x
      obtain rfl : sp = none := hsp
      rw [add_flat] at c0 c1 c2 c3 c4 c5 c6
      have b1 : 0 ≤ x1 := (bounds_u8 w1).1
      have b2 : 0 ≤ x2 := (bounds_u16 w2).1
      have b3 : 0 ≤ x3 := (bounds_u32 w3).1
      have b4 : 0 ≤ x4 := (bounds_u32 w4).1
      obtain ⟨x1, rfl⟩ := Int.eq_ofNat_of_zero_le b1
      obtain ⟨x2, rfl⟩ := Int.eq_ofNat_of_zero_le b2
      obtain ⟨x3, rfl⟩ := Int.eq_ofNat_of_zero_le b3
      obtain ⟨x4, rfl⟩ := Int.eq_ofNat_of_zero_le b4
      exact ⟨⟨x0, x1, x2, x3, x4, k, dat, x6⟩, b, off, A, cc, rfl, ⟨c0, c1, c2, c3, c4, c5, c6⟩, hB, hok, ⟨w0, w6, hk, by have := (bounds_u16 w2).2; show x2 < 65536; omega, hd⟩⟩
    obtain ⟨lst, hlen, hall⟩ := list_of (P := fun i r => ∃ b off A c, x = ⟨b, off, none⟩ ∧ EntCell w b (off + i * 7) r A c ∧ BytesV w A r.n r.dat ∧ SliceOk A r.n c ∧ EntFit r) len key
    refine ⟨lst, hlen, fun k r hr => ?_⟩
    obtain ⟨b, off, A, c, hx, h1, h2, h3, h4⟩ := hall k r hr
    exact ⟨b, off, A, c, by rw [hx], h1, h2, h3, h4⟩
theorem files_cells : Tryz.prog.cellsOf 42 = 2 := by kernel_rfl
set_option maxRecDepth 100000 in
theorem open_files {b0 : Nat} {v : Value} {d : DataW H} {p : List MemPlace} (hv : Value.okWide Tryz.prog w .any b0 42 v) (h : DataW.Trod enc Tryz.prog w base spare held 42 v d p) :
    ∃ P n cap N, v = .agg #[.slice P n cap, .int .i64 N] ∧ ArgF8 w P n cap ∧ (Lit.int .i64 N).wf = true := by
  obtain ⟨v0, v1, y0, y1, n, rfl, _, _, e0, e1⟩ := open_agg2 Tryz.underlying42 (by kernel_rfl) files_cells hv h
  obtain ⟨x1, h1, _, w1⟩ := DataW.trod_int Tryz.underlying3 e1
  simp at h1
  subst h1
  rcases open_slice_fields Tryz.underlying40 ent_und ent_one (by rw [ent_cells, ent_fs]) e0 with ⟨hcs, _⟩ | ⟨x, l, c, m, D, Pl, hcs, _, hl, hm, hmm, _, hi⟩
  · simp at hcs
    subst hcs
    exact ⟨_, _, _, _, rfl, open_ents e0, w1⟩
  · simp at hcs
    subst hcs
    exact ⟨_, _, _, _, rfl, open_ents e0, w1⟩
end

end Go.Proofs.YtkkmcnngpahfaaaGreatDoor

namespace Go.Proofs.YtkkmcnngpahfaaaGreatDoor
open Go.RowKit Go.Sort
set_option linter.unusedSimpArgs false
set_option linter.unusedVariables false

def LawPost8 (w : World) (e : Ending) (w' : World) : Prop := e = .returned (.bool true) ∧ Below w.heap.size w w'
/-- What is more than a law plays. -/
def Huge8 (w : World) (P : Option Addr) (n k : Nat) (N : Int) : Prop := (200 : Int) < (k : Int) ∨ 64 < N ∨ (64 : Int) < (n : Int) ∨ ∃ l, EntsIn w P l ∧ n = l.length ∧ greatN 0 l = true ∧ n ≤ 64 ∧ N ≤ 64 ∧ (k : Int) ≤ 200
structure Plain8 (w : World) (P : Option Addr) (n k : Nat) (N : Int) (l : List Ent) : Prop where
  ins : In8 w P n l
  great : greatN 0 l = false
  few : (k : Int) ≤ 200
  frames : N ≤ 64
theorem In8.below {w w' : World} {P : Option Addr} {n : Nat} {l : List Ent} (h : In8 w P n l) (hb : Below w.heap.size w w') : In8 w' P n l := ⟨h.ents.below hb, h.len, h.few, h.small⟩
theorem Huge8.below {w w' : World} {P : Option Addr} {n k : Nat} {N : Int} (h : Huge8 w P n k N) (hb : Below w.heap.size w w') : Huge8 w' P n k N := by
  rcases h with h | h | h | ⟨l, h1, h2⟩
  · exact .inl h
  · exact .inr (.inl h)
  · exact .inr (.inr (.inl h))
  · exact .inr (.inr (.inr ⟨l, h1.below hb, h2⟩))
theorem Plain8.below {w w' : World} {P : Option Addr} {n k : Nat} {N : Int} {l : List Ent} (h : Plain8 w P n k N l) (hb : Below w.heap.size w w') : Plain8 w' P n k N l := ⟨h.ins.below hb, h.great, h.few, h.frames⟩
theorem huge_or8 {w : World} {P : Option Addr} {n cap : Nat} (k : Nat) (N : Int) (h : ArgF8 w P n cap) : Huge8 w P n k N ∨ ∃ l, Plain8 w P n k N l := by
  by_cases h1 : (200 : Int) < (k : Int) ∨ 64 < N ∨ (64 : Int) < (n : Int)
  · left
    rcases h1 with h1 | h1 | h1
    · exact .inl h1
    · exact .inr (.inl h1)
    · exact .inr (.inr (.inl h1))
  · obtain ⟨l, hl, hE⟩ := h.2 (by omega)
    cases hg : greatN 0 l with
    | true => exact .inl (.inr (.inr (.inr ⟨l, hE, hl.symm, hg, by omega, by omega, by omega⟩)))
    | false => exact .inr ⟨l, ⟨hE, hl.symm, by omega, fun x hx => entW_small (greatN_small hg x hx)⟩, hg, by omega, by omega⟩
theorem vast_huge {w : World} {P Q : Option Addr} {n k : Nat} {N : Int} (cap cap2 : Nat) (h : Huge8 w P n k N) :
    Calls Tryz.prog 13 #[.agg #[.slice P n cap, .int .i64 N], .slice Q k cap2] w fun e w' => e = .returned (.bool true) ∧ Below w.heap.size w w' := by
  rcases h with h | h | h | ⟨l, h1, h2, h3, h4, h5, h6⟩
  · exact vast8_yes P n cap k cap2 Q N w (.inl h)
  · exact vast8_yes P n cap k cap2 Q N w (.inr (.inl h))
  · exact vast8_yes P n cap k cap2 Q N w (.inr (.inr h))
  · have h9 := vast8_some P n cap k cap2 Q N l w h1 h2 h6 h5 h4
    rw [h3] at h9
    exact h9
theorem vast_plain {w : World} {P Q : Option Addr} {n k : Nat} {N : Int} {l : List Ent} (cap cap2 : Nat) (h : Plain8 w P n k N l) :
    Calls Tryz.prog 13 #[.agg #[.slice P n cap, .int .i64 N], .slice Q k cap2] w fun e w' => e = .returned (.bool false) ∧ Below w.heap.size w w' := by
  have h9 := vast8_some P n cap k cap2 Q N l w h.ins.ents h.ins.len h.few h.frames h.ins.few
  rw [h.great] at h9
  exact h9
/-- The law's box, behind anything that is made. -/
structure Box8 (w : World) (b : Nat) (P : Option Addr) (n cap : Nat) (N : Int) : Prop where
  c0 : w.cell? ⟨b, 0, none⟩ = some (.slice P n cap)
  c1 : w.cell? ⟨b, 1, none⟩ = some (.int .i64 N)
  lt : b < w.heap.size
theorem Box8.below {w w' : World} {b B : Nat} {P : Option Addr} {n cap : Nat} {N : Int} (h : Box8 w b P n cap N) (hb : Below B w w') (hB : b < B) : Box8 w' b P n cap N := ⟨(hb.cell (p := ⟨b, 0, none⟩) hB).trans h.c0, (hb.cell (p := ⟨b, 1, none⟩) hB).trans h.c1, by have := hb.size; have := h.lt; omega⟩
theorem box8_new (w : World) (P : Option Addr) (n cap : Nat) (N : Int) : Box8 (w.alloc (.cells #[.slice P n cap, .int .i64 N] 42)) w.heap.size P n cap N :=
  ⟨one_block (heap_alloc_new w _) 0, one_block (heap_alloc_new w _) 1, by simp⟩

end Go.Proofs.YtkkmcnngpahfaaaGreatDoor

namespace Go.Proofs.YtkkmcnngpahfaaaGreatDoor
open Go.ChangeShapes Go.WideShapes Go.ChangeAt Go.RowKit Go.Deep Go.Joins
set_option linter.unusedSimpArgs false
set_option linter.unusedVariables false
section
variable {H : Type} {enc : TypeId × Value → H} {w : World} {base : Nat} {spare : Nat → Bool} {held : Bool}
set_option maxRecDepth 100000 in
theorem open_filesC {b0 : Nat} {v : Value} {d : DataW H} {p : List MemPlace} (hv : Value.okWide Tryz.prog w .any b0 42 v) (h : DataW.Trod enc Tryz.prog w base spare held 42 v d p) :
    ∃ P n cap N, v = .agg #[.slice P n cap, .int .i64 N] ∧ ArgF8 w P n cap ∧ (Lit.int .i64 N).wf = true ∧ n ≤ cap := by
  obtain ⟨v0, v1, y0, y1, n, rfl, _, _, e0, e1⟩ := open_agg2 Tryz.underlying42 (by kernel_rfl) files_cells hv h
  obtain ⟨x1, h1, _, w1⟩ := DataW.trod_int Tryz.underlying3 e1
  simp at h1
  subst h1
  rcases open_slice_fields Tryz.underlying40 ent_und ent_one (by rw [ent_cells, ent_fs]) e0 with ⟨hcs, _⟩ | ⟨x, l, c, m, D, Pl, hcs, _, hl, hm, hmm, _, hi⟩
  · simp at hcs
    subst hcs
    exact ⟨_, _, _, _, rfl, open_ents e0, w1, Nat.le_refl _⟩
  · simp at hcs
    subst hcs
    exact ⟨_, _, _, _, rfl, open_ents e0, w1, hl⟩
end

end Go.Proofs.YtkkmcnngpahfaaaGreatDoor
