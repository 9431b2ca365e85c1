/- TableApart, its walk. -/
import Derived.Test.YtmkgdgfbdmjeeaaDoorTsK
import Derived.Test.YtmkgdgfbdmjeeaaDoorLwD
namespace Go.Proofs.YtmkgdgfbdmjeeaaDoor
open Go.RowKit Go.Sort
set_option linter.unusedSimpArgs false
set_option linter.unusedVariables false

set_option maxRecDepth 100000 in
set_option maxHeartbeats 2000000 in
theorem behind_bad (n : Int) (A : Option Addr) (len cap : Nat) (w : World) (h : n < 1) (hw0 : 0 < w.heap.size) : Calls Tryd.prog 26 #[.int .i64 n, .slice A len cap] w fun e w' => e = .returned (.tuple #[.pointer none, .bool true]) ∧ Below w.heap.size w w' := by
  go_enter Tryd.func26, Tryd.ntmps26
  go_wp2_with fail
  refine (made_bad n w h hw0).mono ?_
  rintro e w1 ⟨rfl, hb1⟩
  go_wp2_with fail
  go_ret2
  exact ⟨rfl, hb1⟩
theorem findRes_same {T T' : Tab} {X : Int} (h : T'.lf (X.toNat / 4096) = T.lf (X.toNat / 4096)) : findRes T' X = findRes T X := by
  unfold findRes
  rw [h]
def LawPost (w : World) (e : Ending) (w' : World) : Prop := e = .returned (.bool true) ∧ Below w.heap.size w w'

set_option maxRecDepth 100000 in
set_option maxHeartbeats 4000000 in
theorem tableApart_any (n X : Int) (A : Option Addr) (len cap : Nat) (op : Op) (w : World) (hX : 0 ≤ X) (hX1 : X ≤ 18446744073709551615) (hop : op.Ok) (hA : ArgO w A len cap) (hdb : DB w) (hw0 : 0 < w.heap.size) :
    Calls Tryd.prog 4 #[.int .i64 n, .slice A len cap, op.val, .int .u64 X] w (LawPost w) := by
  obtain ⟨K, AA, fr, q, cp, N⟩ := op
  obtain ⟨hlen0, hl⟩ := hA
  obtain ⟨w0, hwd⟩ : ∃ w0, w0 = w.alloc (.cells #[.int .i64 K, .int .u64 AA, .int .i64 fr, .int .u8 q, .bool cp, .int .i64 N] 24) := ⟨_, rfl⟩
  have hb0 : Below w.heap.size w w0 := by rw [hwd]; exact (Below.refl _ _).alloc (Nat.le_refl _) _
  have hE : w0.heap[w.heap.size]? = some (.cells #[.int .i64 K, .int .u64 AA, .int .i64 fr, .int .u8 q, .bool cp, .int .i64 N] 24 (0, 0)) := by rw [hwd]; exact heap_alloc_new w _
  have l0 : w.heap.size < w0.heap.size := (Array.getElem?_eq_some_iff.1 hE).1
  have hdb0 : DB w0 := hdb.same (hb0.block 0 hw0)
  have e0 : w0.cell? ⟨w.heap.size, 0, none⟩ = some (.int .i64 K) := one_block hE 0
  have e1 : w0.cell? ⟨w.heap.size, 1, none⟩ = some (.int .u64 AA) := one_block hE 1
  have HWK := Lib.hid (fun W (hW : Below w.heap.size w W) => works_any W (hdb.same (hW.block 0 hw0)) (Nat.lt_of_lt_of_le hw0 hW.size))
  have HE := Lib.hid hE
  have HWD := Lib.hid hwd
  have HDB0 := Lib.hid hdb0
  have HOP := Lib.hid hop
  have hopA : 0 ≤ AA := hop.a0
  have hopB : AA ≤ 18446744073709551615 := hop.a1
  show Calls Tryd.prog 4 #[.int .i64 n, .slice A len cap, .agg #[.int .i64 K, .int .u64 AA, .int .i64 fr, .int .u8 q, .bool cp, .int .i64 N], .int .u64 X] w (LawPost w)
  clear hE hwd hdb0 hdb hop
  by_cases hv : 96 < n ∨ (120 : Int) < (len : Int)
  · have HV := Lib.hid (fun W => vast_yes n A len cap W hv)
    clear hv
    go_enter Tryd.func4, Tryd.ntmps4
    go_upto_region 1 with (fail)
    rw [← HWD.out]
    go_wp2_with (first
      | (go_at_call 25; refine (HV.out _).mono ?_; rintro e w1 ⟨rfl, rfl⟩)
      | (go_at_call 24; refine (HWK.out _ hb0).mono ?_; rintro e w2 ⟨rfl, hb2⟩)
      | fail)
    go_ret
    exact ⟨rfl, hb0.trans (hb2.mono hb0.size)⟩
  have hn96 : n ≤ 96 := by omega
  have hk120 : (len : Int) ≤ 120 := by omega
  have HV := Lib.hid (fun W => vast_no n A len cap W hn96 hk120)
  clear hv
  by_cases h7 : K = 7
  · subst h7
    go_enter Tryd.func4, Tryd.ntmps4
    go_upto_region 1 with (fail)
    rw [← HWD.out]
    go_wp2_with (first
      | (go_at_call 25; refine (HV.out _).mono ?_; rintro e w1 ⟨rfl, rfl⟩)
      | (go_at_call 24; refine (HWK.out _ hb0).mono ?_; rintro e w2 ⟨rfl, hb2⟩)
      | fail)
    go_ret
    exact ⟨rfl, hb0.trans (hb2.mono hb0.size)⟩
  have k7 : (K == 7) = false := by rw [beq_eq_false_iff_ne]; exact h7
  by_cases hpg : AA / 4096 = X / 4096
  · have hq : (AA / 4096 == X / 4096) = true := by rw [beq_iff_eq]; exact hpg
    clear hpg
    go_enter Tryd.func4, Tryd.ntmps4
    go_upto_region 1 with (fail)
    rw [← HWD.out]
    go_wp2_with (first
      | (go_at_call 25; refine (HV.out _).mono ?_; rintro e w1 ⟨rfl, rfl⟩)
      | (go_at_call 24; refine (HWK.out _ hb0).mono ?_; rintro e w2 ⟨rfl, hb2⟩)
      | fail)
    go_ret
    exact ⟨rfl, hb0.trans (hb2.mono hb0.size)⟩
  have hq : (AA / 4096 == X / 4096) = false := by rw [beq_eq_false_iff_ne]; exact hpg
  have hpg2 : X.toNat / 4096 ≠ AA.toNat / 4096 := by omega
  have HPG := Lib.hid hpg2
  clear hpg hpg2
  by_cases hn1 : n < 1
  · have HBH := Lib.hid (behind_bad n A len cap w0 hn1 (by omega))
    clear hn1
    go_enter Tryd.func4, Tryd.ntmps4
    go_upto_region 1 with (fail)
    rw [← HWD.out]
    go_wp2_with (first
      | (go_at_call 25; refine (HV.out _).mono ?_; rintro e w1 ⟨rfl, rfl⟩)
      | (go_at_call 26; refine (HBH.out).mono ?_; rintro e w1 ⟨rfl, hb1⟩; have hb1 := hb0.trans (hb1.mono hb0.size))
      | (go_at_call 24; refine (HWK.out _ hb1).mono ?_; rintro e w2 ⟨rfl, hb2⟩)
      | fail)
    go_ret
    exact ⟨rfl, hb1.trans (hb2.mono hb1.size)⟩
  obtain ⟨l, hsl⟩ := hl (by omega)
  obtain ⟨n, rfl⟩ : ∃ m : Nat, n = (m : Int) := ⟨n.toNat, by omega⟩
  have HBH := Lib.hid (behind_any n len cap A l w0 (by omega) (by omega) ((hsl.below hb0 (Nat.le_refl _)).more (by omega)) (by omega) HDB0.out (by omega))
  clear hsl hl hn1
  go_enter Tryd.func4, Tryd.ntmps4
  go_upto_region 1 with (fail)
  rw [← HWD.out]
  go_upto_region 6 with (first
    | (go_at_call 25; refine (HV.out _).mono ?_; rintro e w1 ⟨rfl, rfl⟩)
    | (go_at_call 26; refine (HBH.out).mono ?_; rintro e w1 ⟨B, o, a, c, fs, m, t, S, s, H, cap', rfl, hrun, hfine, hb1, hB⟩; have HRUN := Lib.hid hrun; have HB1 := Lib.hid (hb0.trans (hb1.mono hb0.size)); have hE1 := (hb1.block _ l0).trans HE.out; have HE1 := Lib.hid hE1; clear hrun hb1 hE1)
    | fail)
  have hO1 := HRUN.out.own.self
  have o2 : w1.cell? ⟨o, 2, none⟩ = some (.pointer (some ⟨t, 0, none⟩)) := one_block hO1 2
  obtain ⟨⟨lf, r⟩, hlr⟩ : ∃ x : Leaf × Int, x = findRes s.T X := ⟨_, rfl⟩
  have hfind := tfind_any t c a 0 X w1 S s.p s.T HRUN.out.own.cache.pool HRUN.out.own.tab HRUN.out.lts.2.1 (hfine.good.tree hfine.root) hX
  rw [← hlr] at hfind
  have hfind' : Calls Tryd.prog 20 #[.pointer (some ⟨t, 0, none⟩), .int .u64 X] w1 fun e w' => e = .returned (.tuple #[.agg #[.int .i64 (lf.frame : Int), .int .u8 (lf.prot : Int), .bool lf.copy], .int .i64 r]) ∧ Below w1.heap.size w1 w' := hfind
  have HF := Lib.hid hfind'
  have HLR := Lib.hid hlr
  clear hfind hfind' hlr hO1
  go_upto_region 7 with (first
    | (go_at_call 20; refine (HF.out).mono ?_; rintro e w2 ⟨rfl, hb2⟩; have HB2 := Lib.hid hb2; clear hb2)
    | fail)
  obtain ⟨w3, hw3⟩ : ∃ w3, w3 = w2.alloc (.cells #[.int .i64 (lf.frame : Int), .int .u8 (lf.prot : Int), .bool lf.copy] 40) := ⟨_, rfl⟩
  rw [← hw3]
  have hz2 := HB2.out.size
  have hz1 := HB1.out.size
  have hb23 : Below w2.heap.size w2 w3 := by rw [hw3]; exact (Below.refl _ _).alloc (Nat.le_refl _) _
  have hL3 : w3.heap[w2.heap.size]? = some (.cells #[.int .i64 (lf.frame : Int), .int .u8 (lf.prot : Int), .bool lf.copy] 40 (0, 0)) := by rw [hw3]; exact heap_alloc_new _ _
  have hb13 : Below w1.heap.size w1 w3 := HB2.out.trans (hb23.mono hz2)
  have hrun3 := HRUN.out.below hb13
  have hE3 := (hb13.block _ (Array.getElem?_eq_some_iff.1 HE1.out).1).trans HE1.out
  have f0 : w3.cell? ⟨w.heap.size, 0, none⟩ = some (.int .i64 K) := one_block hE3 0
  have f1 : w3.cell? ⟨w.heap.size, 1, none⟩ = some (.int .u64 AA) := one_block hE3 1
  have f2 : w3.cell? ⟨w.heap.size, 2, none⟩ = some (.int .i64 fr) := one_block hE3 2
  have f3 : w3.cell? ⟨w.heap.size, 3, none⟩ = some (.int .u8 q) := one_block hE3 3
  have f4 : w3.cell? ⟨w.heap.size, 4, none⟩ = some (.bool cp) := one_block hE3 4
  have f5 : w3.cell? ⟨w.heap.size, 5, none⟩ = some (.int .i64 N) := one_block hE3 5
  have hl3 : w2.heap.size < w3.heap.size := (Array.getElem?_eq_some_iff.1 hL3).1
  have hdo := does_any B o a c fs m t 0 n len ⟨K, AA, fr, q, cp, N⟩ w3 S s H cap' hrun3 hfine (by omega) HOP.out h7
  have hdo' : Calls Tryd.prog 27 #[.pointer (some ⟨o, 0, none⟩), .agg #[.int .i64 K, .int .u64 AA, .int .i64 fr, .int .u8 q, .bool cp, .int .i64 N]] w3 (DoesPost w3 B o a c fs m t 0 S H ⟨K, AA, fr, q, cp, N⟩ s) := hdo
  have HDO := Lib.hid hdo'
  have HL3 := Lib.hid hL3
  have HB13 := Lib.hid hb13
  have HR3 := Lib.hid hrun3
  clear hw3 hb23 hL3 hb13 hrun3 hE3 hdo hdo' o2
  go_upto_region 8 with (first
    | (go_at_call 27; refine (HDO.out).mono ?_; rintro e w4 ⟨y, s', S', H', cap2, rfl, hrun4, hm4, hres⟩; have HR4 := Lib.hid hrun4; have HM4 := Lib.hid hm4; have HRES := Lib.hid hres; clear hrun4 hm4 hres)
    | fail)
  have hO4 := HR4.out.own.self
  have o2 : w4.cell? ⟨o, 2, none⟩ = some (.pointer (some ⟨t, 0, none⟩)) := one_block hO4 2
  have hfine4 := hfine.step HOP.out HRES.out
  have hfind := tfind_any t c a 0 X w4 S' s'.p s'.T HR4.out.own.cache.pool HR4.out.own.tab HR4.out.lts.2.1 (hfine4.good.tree hfine4.root) hX
  rw [findRes_same (HRES.out.apart hfine HOP.out HPG.out), ← HLR.out] at hfind
  have hfind' : Calls Tryd.prog 20 #[.pointer (some ⟨t, 0, none⟩), .int .u64 X] w4 fun e w' => e = .returned (.tuple #[.agg #[.int .i64 (lf.frame : Int), .int .u8 (lf.prot : Int), .bool lf.copy], .int .i64 r]) ∧ Below w4.heap.size w4 w' := hfind
  have HF4 := Lib.hid hfind'
  have hz4 := HM4.out.size
  have hL4 := (HM4.out.block w2.heap.size hl3 (fun e => by
    obtain ⟨l1, l2, l3, l4, l5⟩ := HRUN.out.lts
    rcases e with e | e | e | e | e | e
    · have := l5 _ e; omega
    · omega
    · omega
    · omega
    · omega
    · have := (HRUN.out.row.lt _ e).2; omega)).trans HL3.out
  have HL4 := Lib.hid hL4
  clear hfind hfind' hO4 hL4 f0 f1 f2 f3 f4 f5
  go_upto_region 9 with (first
    | (go_at_call 20; refine (HF4.out).mono ?_; rintro e w5 ⟨rfl, hb5⟩; have HB5 := Lib.hid hb5; clear hb5)
    | fail)
  obtain ⟨w6, hw6⟩ : ∃ w6, w6 = w5.alloc (.cells #[.int .i64 (lf.frame : Int), .int .u8 (lf.prot : Int), .bool lf.copy] 40) := ⟨_, rfl⟩
  rw [← hw6]
  have hz5 := HB5.out.size
  have hb56 : Below w5.heap.size w5 w6 := by rw [hw6]; exact (Below.refl _ _).alloc (Nat.le_refl _) _
  have hL6 : w6.heap[w5.heap.size]? = some (.cells #[.int .i64 (lf.frame : Int), .int .u8 (lf.prot : Int), .bool lf.copy] 40 (0, 0)) := by rw [hw6]; exact heap_alloc_new _ _
  have hb46 : Below w4.heap.size w4 w6 := HB5.out.trans (hb56.mono hz5)
  have hK6 := (hb46.block w2.heap.size (by omega)).trans HL4.out
  have g0 : w6.cell? ⟨w2.heap.size, 0, none⟩ = some (.int .i64 (lf.frame : Int)) := one_block hK6 0
  have g1 : w6.cell? ⟨w2.heap.size, 1, none⟩ = some (.int .u8 (lf.prot : Int)) := one_block hK6 1
  have g2 : w6.cell? ⟨w2.heap.size, 2, none⟩ = some (.bool lf.copy) := one_block hK6 2
  have g3 : w6.cell? ⟨w5.heap.size, 0, none⟩ = some (.int .i64 (lf.frame : Int)) := one_block hL6 0
  have g4 : w6.cell? ⟨w5.heap.size, 1, none⟩ = some (.int .u8 (lf.prot : Int)) := one_block hL6 1
  have g5 : w6.cell? ⟨w5.heap.size, 2, none⟩ = some (.bool lf.copy) := one_block hL6 2
  have hall : Below w.heap.size w w6 := by
    have h34 := HR3.out.belowOf HM4.out
    have hBw : w.heap.size ≤ B := by omega
    exact HB1.out.trans ((HB13.out.mono hz1).trans ((h34.mono hBw).trans (hb46.mono (by omega))))
  have HALL := Lib.hid hall
  clear hw6 hb56 hL6 hb46 hK6 hall o2
  go_wp2_with (first
    | (go_at_call 24; refine (HWK.out _ HALL.out).mono ?_; rintro e w7 ⟨rfl, hb7⟩)
    | fail)
  go_ret
  exact ⟨rfl, HALL.out.trans (hb7.mono HALL.out.size)⟩

end Go.Proofs.YtmkgdgfbdmjeeaaDoor
