/- TableUndone, its walk (seat .ZD). -/
import Derived.Test.YtmkgdgfbdmjeeaaGreatDoorLwO
import Derived.Test.YtmkgdgfbdmjeeaaGreatDoorLwH
import Derived.Test.YtmkgdgfbdmjeeaaGreatDoorSlB
import Derived.Test.YtmkgdgfbdmjeeaaGreatDoorTsU
import Derived.Test.YtmkgdgfbdmjeeaaGreatDoorTsV
namespace Go.Proofs.YtmkgdgfbdmjeeaaGreatDoor
open Go.RowKit Go.Sort
set_option linter.unusedSimpArgs false
set_option linter.unusedVariables false

/-- A Map that is refused: the table is what it was, and what the cache dropped is free. -/
theorem undone_law {s : Sta} {root n k : Nat} (h : s.Fine root n k) {A fr q r : Int} {cp : Bool} {p' : Pool} {T' : Tab} {L' : List Slot} (hd : MapDo s.p s.T s.L (cntH s.hold) A fr q cp r p' T' L') (hr : r ≠ 0) :
    T' = s.T ∧ s.T.Good p' (held L' (cntH s.hold)) 0 4 ∧ p'.left + L'.length = s.p.left + s.L.length ∧ (r = 4 ∨ L'.length = s.L.length) ∧ L'.length ≤ s.L.length ∧ L'.Sublist s.L := by
  rcases hd with ⟨_, _, rfl, rfl, rfl⟩ | ⟨_, _, _, rfl, rfl, rfl⟩ | ⟨_, _, g1, g2, g3, g4, g5⟩
  · exact ⟨rfl, h.good, rfl, .inr rfl, Nat.le_refl _, List.Sublist.refl _⟩
  · exact ⟨rfl, h.good, rfl, .inr rfl, Nat.le_refl _, List.Sublist.refl _⟩
  · rcases g5 with ⟨e4, rfl, e6, e7⟩ | ⟨e4, _⟩
    · exact ⟨rfl, g1.any 0 4, left_drop (h.good.any _ _) g1 g2 h.sole g4 (fun x hx => h.size ▸ h.slow x hx) e7, .inl e4, g4.length_le, g4⟩
    · exact absurd e4 hr
/-- A Map that is done: one leaf more, and it is found. -/
theorem done_law {s : Sta} {root n k : Nat} (h : s.Fine root n k) {A fr q : Int} {cp : Bool} {p' : Pool} {T' : Tab} {L' : List Slot} (hA0 : 0 ≤ A) (hq0 : 0 ≤ q) (hd : MapDo s.p s.T s.L (cntH s.hold) A fr q cp 0 p' T' L') :
    T'.Good p' (held L' (cntH s.hold)) (A.toNat / 4096) 4 ∧ T'.nd 4 0 = some root ∧ findRes T' A = (⟨fr.toNat, q.toNat, cp⟩, 0) ∧ 0 ≤ fr ∧ ((T'.evs 4 0).flatMap Ev.ls).length = ((s.T.evs 4 0).flatMap Ev.ls).length + 1 := by
  rcases hd with ⟨_, e, _⟩ | ⟨_, _, e, _⟩ | ⟨hnb, hno, g1, g2, g3, g4, g5⟩
  · cases e
  · cases e
  rcases g5 with ⟨e4, _⟩ | ⟨_, hlf, hnd, _⟩
  · cases e4
  have hb4 : A < 140737488355328 ∧ countB s.p fr ≠ 0 := by unfold MapBad at hnb; omega
  obtain ⟨g, hg, _, _⟩ := countB_yes hb4.2
  have hno' : s.T.lf (A.toNat / 4096) = none := by
    cases hc : s.T.lf (A.toNat / 4096) with
    | none => rfl
    | some y => rw [hc] at hno; cases hno
  refine ⟨g1, hnd _ _ _ h.root, ?_, by omega, leaves_more h.good.ok g1.ok (by unfold pagesN; omega) hno' hlf⟩
  unfold findRes
  rw [if_neg (by omega), hlf, upd_same]

set_option maxRecDepth 100000 in
set_option maxHeartbeats 4000000 in
theorem tableUndone_any (n : Int) (A : Option Addr) (len cap : Nat) (op : Op) (w : World) (hop : op.Ok) (hA : ArgO w A len cap) (hdb : DB w) (hw0 : 0 < w.heap.size) :
    Calls Tryz.prog 6 #[.int .i64 n, .slice A len cap, op.val] w (LawPost w) := by
  obtain ⟨K, AA, fr, q, cp, N⟩ := op
  obtain ⟨hlen0, hl⟩ := hA
  obtain ⟨w0, hwd⟩ : ∃ w0, w0 = w.alloc (.cells #[.int .i64 K, .int .u64 AA, .int .i64 fr, .int .u8 q, .bool cp, .int .i64 N] 38) := ⟨_, rfl⟩
  have hb0 : Below w.heap.size w w0 := by rw [hwd]; exact (Below.refl _ _).alloc (Nat.le_refl _) _
  have hE : w0.heap[w.heap.size]? = some (.cells #[.int .i64 K, .int .u64 AA, .int .i64 fr, .int .u8 q, .bool cp, .int .i64 N] 38 (0, 0)) := by rw [hwd]; exact heap_alloc_new w _
  have l0 : w.heap.size < w0.heap.size := (Array.getElem?_eq_some_iff.1 hE).1
  have hdb0 : DB w0 := hdb.same (hb0.block 0 hw0)
  have HWK := Lib.hid (fun W (hW : Below w.heap.size w W) => works_any W (hdb.same (hW.block 0 hw0)) (Nat.lt_of_lt_of_le hw0 hW.size))
  have HE := Lib.hid hE
  have HWD := Lib.hid hwd
  have HDB0 := Lib.hid hdb0
  have hopA : 0 ≤ AA := hop.a0
  have hopQ : 0 ≤ q := hop.p0
  show Calls Tryz.prog 6 #[.int .i64 n, .slice A len cap, .agg #[.int .i64 K, .int .u64 AA, .int .i64 fr, .int .u8 q, .bool cp, .int .i64 N]] w (LawPost w)
  clear hE hwd hdb0 hdb hop
  by_cases hv : 96 < n ∨ (120 : Int) < (len : Int)
  · have HV := Lib.hid (fun W => vast_yes n A len cap W hv)
    clear hv
    go_enter Tryz.func6, Tryz.ntmps6
    go_upto_region 1 with (fail)
    rw [← HWD.out]
    go_wp2_with (first
      | (go_at_call 7; refine (HV.out _).mono ?_; rintro e w1 ⟨rfl, rfl⟩)
      | (go_at_call 8; refine (HWK.out _ hb0).mono ?_; rintro e w2 ⟨rfl, hb2⟩)
      | fail)
    go_ret
    exact ⟨rfl, hb0.trans (hb2.mono hb0.size)⟩
  have hn96 : n ≤ 96 := by omega
  have hk120 : (len : Int) ≤ 120 := by omega
  have HV := Lib.hid (fun W => vast_no n A len cap W hn96 hk120)
  clear hv
  by_cases hn1 : n < 1
  · have HBH := Lib.hid (behind_bad n A len cap w0 hn1 (by omega))
    clear hn1
    go_enter Tryz.func6, Tryz.ntmps6
    go_upto_region 1 with (fail)
    rw [← HWD.out]
    go_wp2_with (first
      | (go_at_call 7; refine (HV.out _).mono ?_; rintro e w1 ⟨rfl, rfl⟩)
      | (go_at_call 27; refine (HBH.out).mono ?_; rintro e w1 ⟨rfl, hb1⟩; have hb1 := hb0.trans (hb1.mono hb0.size))
      | (go_at_call 8; refine (HWK.out _ hb1).mono ?_; rintro e w2 ⟨rfl, hb2⟩)
      | fail)
    go_ret
    exact ⟨rfl, hb1.trans (hb2.mono hb1.size)⟩
  obtain ⟨l, hsl⟩ := hl (by omega)
  obtain ⟨n, rfl⟩ : ∃ m : Nat, n = (m : Int) := ⟨n.toNat, by omega⟩
  have HBH := Lib.hid (behind_any n len cap A l w0 (by omega) (by omega) ((hsl.below hb0 (Nat.le_refl _)).more (by omega)) (by omega) HDB0.out (by omega))
  clear hsl hl hn1
  go_enter Tryz.func6, Tryz.ntmps6
  go_upto_region 1 with (fail)
  rw [← HWD.out]
  go_upto_region 6 with (first
    | (go_at_call 7; refine (HV.out _).mono ?_; rintro e w1 ⟨rfl, rfl⟩)
    | (go_at_call 27; refine (HBH.out).mono ?_; rintro e w1 ⟨B, o, a, c, fs, m, t, S, s, H, cap', rfl, hrun, hfine, hb1, hB⟩; have HRUN := Lib.hid hrun; have HB1 := Lib.hid (hb0.trans (hb1.mono hb0.size)); have hE1 := (hb1.block _ l0).trans HE.out; have HE1 := Lib.hid hE1; clear hrun hb1 hE1)
    | fail)
  obtain ⟨l1, l2, l3, l4, l5⟩ := HRUN.out.lts
  have hO1 := HRUN.out.own.self
  have o2 : w1.cell? ⟨o, 2, none⟩ = some (.pointer (some ⟨t, 0, none⟩)) := one_block hO1 2
  have hallc := tall_any t c a 0 w1 S s.p s.T _ 0 HRUN.out.own.cache.pool HRUN.out.own.tab hfine.good hfine.root
  obtain ⟨ls, hls⟩ : ∃ ls, ls = (s.T.evs 4 0).flatMap Ev.ls := ⟨_, rfl⟩
  obtain ⟨ns, hns⟩ : ∃ ns, ns = (s.T.evs 4 0).flatMap Ev.ns := ⟨_, rfl⟩
  rw [← hls] at hallc
  have hlsN : ls.length ≤ 10000000 := by
    rw [hls]
    exact Nat.le_trans (flatMap_few (F := Ev.ls) (fun e => by cases e <;> simp [Ev.ls]) _) (Nat.le_trans hfine.good.ok.short (by decide))
  have hnsN : ns.length ≤ 10000000 := by
    rw [hns]
    exact Nat.le_trans (flatMap_few (F := Ev.ns) (fun e => by cases e <;> simp [Ev.ns]) _) (Nat.le_trans hfine.good.ok.short (by decide))
  have HALLC := Lib.hid hallc
  have HLS := Lib.hid hls
  have HNS := Lib.hid hns
  clear hO1 hallc hls hns
  go_upto_region 7 with (first
    | (go_at_call 22; refine (HALLC.out).mono ?_; rintro e w2 ⟨A1, c1, rfl, hown1, hb2⟩; have HR1 := Lib.hid hown1; have HB2 := Lib.hid hb2; clear hown1 hb2)
    | fail)
  have hrun2 := HRUN.out.below HB2.out
  have hO2 := hrun2.own.self
  have o2' : w2.cell? ⟨o, 2, none⟩ = some (.pointer (some ⟨t, 0, none⟩)) := one_block hO2 2
  have hnodc := tnodes_any t c a 0 w2 S s.p s.T _ 0 hrun2.own.cache.pool hrun2.own.tab hfine.good hfine.root
  rw [← HNS.out] at hnodc
  have HNODC := Lib.hid hnodc
  clear hnodc
  have HRUN2 := Lib.hid hrun2
  clear hO2 hrun2 o2
  go_upto_region 8 with (first
    | (go_at_call 23; refine (HNODC.out).mono ?_; rintro e w3 ⟨A2, c2, rfl, hown2, hb3⟩; have HR2 := Lib.hid hown2; have HB3 := Lib.hid hb3; clear hown2 hb3)
    | fail)
  have hz2 := HB2.out.size
  have hz3 := HB3.out.size
  have hrun3 := HRUN2.out.below HB3.out
  have hO3 := hrun3.own.self
  have hE3 := (HB3.out.block w.heap.size (by have := (Array.getElem?_eq_some_iff.1 HE1.out).1; omega)).trans ((HB2.out.block w.heap.size (Array.getElem?_eq_some_iff.1 HE1.out).1).trans HE1.out)
  have o0 : w3.cell? ⟨o, 0, none⟩ = some (.pointer (some ⟨a, 0, none⟩)) := one_block hO3 0
  have o1 : w3.cell? ⟨o, 1, none⟩ = some (.pointer (some ⟨c, 0, none⟩)) := one_block hO3 1
  have hfree := pfree_any a w3 S s.p hrun3.own.cache.pool
  have hslo := slots_any c a fs m s.clock w3 s.L hrun3.own.cache.self hrun3.own.cache.slots (by have := hfine.few; omega) (fun x hx => by
    obtain ⟨e1, e2, e3⟩ := hfine.keys x hx
    unfold small
    omega)
  have HFREE := Lib.hid hfree
  have HSLO := Lib.hid hslo
  have HRUN3 := Lib.hid hrun3
  have HE3 := Lib.hid hE3
  clear hfree hslo hrun3 hE3 hO3
  go_upto_region 10 with (first
    | (go_at_call 28; refine (HFREE.out).mono ?_; rintro e w4 ⟨rfl, rfl⟩)
    | (go_at_call 24; refine (HSLO.out).mono ?_; rintro e w5 ⟨A5, c5, L5, rfl, hO5, hp5, _, hb5⟩))
  have hz5 := hb5.size
  have hrun5 := HRUN3.out.below hb5
  have hO5' := hrun5.own.self
  have hEl3 : w.heap.size < w3.heap.size := (Array.getElem?_eq_some_iff.1 HE3.out).1
  have hE5 := (hb5.block w.heap.size hEl3).trans HE3.out
  have o2 : w5.cell? ⟨o, 2, none⟩ = some (.pointer (some ⟨t, 0, none⟩)) := one_block hO5' 2
  have e1 : w5.cell? ⟨w.heap.size, 1, none⟩ = some (.int .u64 AA) := one_block hE5 1
  have e2 : w5.cell? ⟨w.heap.size, 2, none⟩ = some (.int .i64 fr) := one_block hE5 2
  have e3 : w5.cell? ⟨w.heap.size, 3, none⟩ = some (.int .u8 q) := one_block hE5 3
  have e4 : w5.cell? ⟨w.heap.size, 4, none⟩ = some (.bool cp) := one_block hE5 4
  have hd5 : Below w5.heap.size w5 w5.drew := (Below.refl _ _).drew
  have hmap := tmap_any t c a 0 fs m s.clock AA fr q cp w5.drew S s.p s.T s.L (cntH s.hold) 0 (hrun5.own.cache.below hd5) ((hd5.block t hrun5.lts.2.1).trans hrun5.own.tab) hrun5.own.noS.2 hrun5.own.ne.2.2.2.1 hfine.good hfine.root hopA hopQ (hfine.cap (by omega))
  have hlen5 : L5.length = s.L.length := hp5.length_eq
  obtain ⟨k5, hk5⟩ : ∃ k5, k5 = L5.length := ⟨_, rfl⟩
  have hfew5 : k5 ≤ 1000 := by have := hfine.few; omega
  have HMAP := Lib.hid hmap
  have HRUN5 := Lib.hid hrun5
  have HE5 := Lib.hid hE5
  have HK5 := Lib.hid (hk5.trans hlen5)
  have HB5 := Lib.hid hb5
  rw [← hk5]
  clear hmap hrun5 hO5' hE5 hd5 hO5 hp5 hlen5 hk5 hb5 o0 o1 o2'
  go_still_tail 13, (by kernel_rfl)
  go_wp2_with fail
  refine (HMAP.out).mono ?_
  rintro e w6 ⟨r, p', T', L', S', rfl, hC6, hm6', ho6', hres⟩
  have hm6 : Mod (Both S m) w5 w6 := hm6'.undrew
  have ho6 : Out S S' w5 := ho6'
  have hz6 := hm6.size
  have hne := HRUN.out.own.ne
  have hnoS := HRUN.out.own.noS
  have hoM : ¬ Both S m o := fun e => e.elim hnoS.1 hne.2.1
  have htM : ¬ Both S m t := fun e => e.elim hnoS.2 hne.2.2.2.1
  have hO6 := (hm6.block o (by omega) hoM).trans HRUN5.out.own.self
  have hT6 : TabSelf w6 t c a 0 := (hm6.block t (by omega) htM).trans HRUN5.out.own.tab
  have hBl := HRUN.out.base
  have hEM : ∀ b, b < B → ¬ Both S m b := fun b hb e => e.elim (fun e => by have := HRUN.out.own.low b e; omega) (fun e => by have := HRUN.out.own.lows; omega)
  have hE6 := (hm6.block w.heap.size (by omega) (hEM _ (by omega))).trans HE5.out
  have hall6 : Below w.heap.size w w6 := by
    have h56 := hm6.below (B := B) (fun b hb => hb.elim (HRUN.out.own.low b) (fun e => by have := HRUN.out.own.lows; omega)) (by omega)
    have hz1 := HB1.out.size
    exact HB1.out.trans ((HB2.out.mono hz1).trans ((HB3.out.mono (by omega)).trans ((HB5.out.mono (by omega)).trans (h56.mono (by omega)))))
  have hkeep : ∀ b, w1.heap.size ≤ b → b < w3.heap.size → w6.heap[b]? = w3.heap[b]? := fun b h1 h2 =>
    (hm6.block b (by omega) (fun e => e.elim (fun e => by have := l5 b e; omega) (fun e => by omega))).trans (HB5.out.block b h2)
  have hr1 : OwnP w6 w1.heap.size A1 c1 ls := HR1.out.same fun g9 hg9 => by
    rcases HR1.out.form with ⟨e, _⟩ | ⟨g8, e, h8, h7, _⟩
    · rw [e] at hg9; cases hg9
    · rw [e] at hg9; injection hg9 with hg9; injection hg9 with hg9; subst hg9
      exact (hkeep _ h8 (by omega)).trans (HB3.out.block _ h7)
  have hr2 : OwnN w6 w2.heap.size A2 c2 ns := HR2.out.same fun g9 hg9 => by
    rcases HR2.out.form with ⟨e, _⟩ | ⟨g8, e, h8, h7, _⟩
    · rw [e] at hg9; cases hg9
    · rw [e] at hg9; injection hg9 with hg9; injection hg9 with hg9; subst hg9
      exact hkeep _ (by omega) h7
  have hol : o < w6.heap.size := (Array.getElem?_eq_some_iff.1 hO6).1
  have htl : t < w6.heap.size := (Array.getElem?_eq_some_iff.1 hT6).1
  have HC6 := Lib.hid hC6
  have HO6 := Lib.hid hO6
  have HT6 := Lib.hid hT6
  have HE6 := Lib.hid hE6
  have HALL6 := Lib.hid hall6
  have HR16 := Lib.hid hr1
  have HR26 := Lib.hid hr2
  have HRES := Lib.hid hres
  clear hC6 hO6 hT6 hE6 hall6 hr1 hr2 hres hm6 hm6' ho6 ho6' hkeep hEM o2 e1 e2 e3 e4
  have hEl6 : w.heap.size < w6.heap.size := by omega
  by_cases hr0 : r = 0
  · subst hr0
    obtain ⟨hgd, hrt, hfr, hfr0, hlen⟩ := done_law hfine hopA hopQ HRES.out
    obtain ⟨fq, rfl⟩ : ∃ fq : Nat, fr = (fq : Int) := ⟨fr.toNat, by omega⟩
    obtain ⟨qq, rfl⟩ : ∃ qq : Nat, q = (qq : Int) := ⟨q.toNat, by omega⟩
    have htree : Tree p' T' 0 := hgd.tree hrt
    have hfd : ∀ W, Below w6.heap.size w6 W → Calls Tryz.prog 30 #[.pointer (some ⟨t, 0, none⟩), .int .u64 AA] W fun e w' => e = .returned (.tuple #[.agg #[.int .i64 (fq : Int), .int .u8 (qq : Int), .bool cp], .int .i64 0]) ∧ Below w6.heap.size w6 w' ∧ Below W.heap.size W w' := fun W hW => by
      have h9 := tfind_any t c a 0 AA W S' p' T' (HC6.out.pool.below hW) ((hW.block t htl).trans HT6.out) (by have := hW.size; omega) htree hopA
      rw [hfr] at h9
      refine h9.mono ?_
      rintro e w' ⟨rfl, hb⟩
      exact ⟨by simp [leafCells], hW.trans (hb.mono hW.size), hb⟩
    have o2 : w6.cell? ⟨o, 2, none⟩ = some (.pointer (some ⟨t, 0, none⟩)) := one_block HO6.out 2
    have e1 : w6.cell? ⟨w.heap.size, 1, none⟩ = some (.int .u64 AA) := one_block HE6.out 1
    have hcall : ∀ W, Below w6.heap.size w6 W → Calls Tryz.prog 30 #[.pointer (some ⟨t, 0, none⟩), .int .u64 AA] W fun e w' => e = .returned (.tuple #[.agg #[.int .i64 (fq : Int), .int .u8 (qq : Int), .bool cp], .int .i64 0]) ∧ Hid (Below w6.heap.size w6 w') ∧ Hid (Below W.heap.size W w') ∧ (w'.cell? ⟨o, 2, none⟩ = some (.pointer (some ⟨t, 0, none⟩)) ∧ w'.cell? ⟨w.heap.size, 1, none⟩ = some (.int .u64 AA)) := fun W hW => by
      refine (hfd W hW).mono ?_
      rintro e w' ⟨rfl, hb, hb2⟩
      exact ⟨rfl, Lib.hid hb, Lib.hid hb2, (hb.cell (p := ⟨o, 2, none⟩) hol).trans o2, (hb.cell (p := ⟨w.heap.size, 1, none⟩) hEl6).trans e1⟩
    have hbd2 : Below w6.heap.size w6 (w6.alloc (.cells #[.int .i64 0, .int .u8 0, .bool false] 31)).drew := ((Below.refl _ _).alloc (Nat.le_refl _) _).drew
    have hbox : (w6.alloc (.cells #[.int .i64 0, .int .u8 0, .bool false] 31)).drew.heap[w6.heap.size]? = some (.cells #[.int .i64 0, .int .u8 0, .bool false] 31 (0, 0)) := heap_alloc_new w6 _
    have hboxl : w6.heap.size < (w6.alloc (.cells #[.int .i64 0, .int .u8 0, .bool false] 31)).drew.heap.size := (Array.getElem?_eq_some_iff.1 hbox).1
    have HBOX := Lib.hid hbox
    have hno : o ≠ w6.heap.size := by omega
    have hnE : w.heap.size ≠ w6.heap.size := by omega
    have hbd : Below w6.heap.size w6 w6.drew := (Below.refl _ _).drew
    have HC := Lib.hid hcall
    clear hfd hfr hfr0 hcall hbox
    go_upto_region 12 with (fail)
    go_region_held3 (fun w' => w'.cell? ⟨o, 2, none⟩ = some (.pointer (some ⟨t, 0, none⟩)) ∧ w'.cell? ⟨w.heap.size, 1, none⟩ = some (.int .u64 AA))
      ((first | go_keep | (simp [*]; done) | exact ⟨leaf_far r1 hno, leaf_far r2 hnE⟩ | exact ⟨r1, r2⟩))
      ((first
        | (go_at_call 30; refine (HC.out _ hbd).mono ?_; rintro e w7 ⟨rfl, HB7, HBV, ⟨r1, r2⟩⟩)
        | (go_at_call 30; refine (HC.out _ hbd2).mono ?_; rintro e w7 ⟨rfl, HB7, HBV, ⟨r1, r2⟩⟩; have hbx := (HBV.out.block w6.heap.size hboxl).trans HBOX.out; have HBX := Lib.hid hbx; have x0 : w7.cell? ⟨w6.heap.size, 0, none⟩ = some (.int .i64 0) := one_block hbx 0; have x1 : w7.cell? ⟨w6.heap.size, 1, none⟩ = some (.int .u8 0) := one_block hbx 1; have x2 : w7.cell? ⟨w6.heap.size, 2, none⟩ = some (.bool false) := one_block hbx 2; have u0 := one_free hbx 0; have u1 := one_free hbx 1; have u2 := one_free hbx 2; clear hbx)))
    all_goals first
    | (obtain ⟨w8, hw8⟩ : ∃ w8, w8 = w7.alloc (.cells #[.int .i64 (fq : Int), .int .u8 (qq : Int), .bool cp] 31) := ⟨_, rfl⟩
       rw [← hw8]
       skip)
    | (obtain ⟨w8, hw8⟩ : ∃ w8, w8 = ((w7.setCell ⟨w6.heap.size, 0, none⟩ (.int .i64 (fq : Int))).setCell ⟨w6.heap.size, 1, none⟩ (.int .u8 (qq : Int))).setCell ⟨w6.heap.size, 2, none⟩ (.bool cp) := ⟨_, rfl⟩
       rw [← hw8]
       skip)
    · have hb8 : Below w6.heap.size w6 w8 := (by rw [hw8]; exact HB7.out.alloc HB7.out.size _)
      have hx8 : w8.heap[w7.heap.size]? = some (.cells #[.int .i64 (fq : Int), .int .u8 (qq : Int), .bool cp] 31 (0, 0)) := (by rw [hw8]; exact heap_alloc_new _ _)
      have hE8 := (hb8.block w.heap.size hEl6).trans HE6.out
      have y0 : w8.cell? ⟨w7.heap.size, 0, none⟩ = some (.int .i64 (fq : Int)) := one_block hx8 0
      have y1 : w8.cell? ⟨w7.heap.size, 1, none⟩ = some (.int .u8 (qq : Int)) := one_block hx8 1
      have y2 : w8.cell? ⟨w7.heap.size, 2, none⟩ = some (.bool cp) := one_block hx8 2
      have y3 : w8.cell? ⟨w.heap.size, 2, none⟩ = some (.int .i64 (fq : Int)) := one_block hE8 2
      have y4 : w8.cell? ⟨w.heap.size, 3, none⟩ = some (.int .u8 (qq : Int)) := one_block hE8 3
      have y5 : w8.cell? ⟨w.heap.size, 4, none⟩ = some (.bool cp) := one_block hE8 4
      have y6 : w8.cell? ⟨o, 2, none⟩ = some (.pointer (some ⟨t, 0, none⟩)) := (hb8.cell (p := ⟨o, 2, none⟩) hol).trans o2
      have hall8 := tall_any t c a 0 w8 S' p' T' _ _ (HC6.out.pool.below hb8) ((hb8.block t htl).trans HT6.out) hgd hrt
      obtain ⟨ls2, hls2⟩ : ∃ ls2, ls2 = (T'.evs 4 0).flatMap Ev.ls := ⟨_, rfl⟩
      rw [← hls2] at hall8
      obtain ⟨k8, hk8⟩ : ∃ k8, k8 = ls2.length := ⟨_, rfl⟩
      obtain ⟨k1, hk1⟩ : ∃ k1, k1 = ls.length := ⟨_, rfl⟩
      have hk81 : k8 = k1 + 1 := by rw [hk8, hk1, hls2, hlen, HLS.out]
      have HA8 : Hid (Calls Tryz.prog 22 #[.pointer (some ⟨t, 0, none⟩)] w8 fun e w' => ∃ A9 c9, e = .returned (.slice A9 k8 c9) ∧ Below w8.heap.size w8 w') := Lib.hid (hall8.mono fun e w' ⟨A9, c9, he, _, hb⟩ => ⟨A9, c9, by rw [he, hk8], hb⟩)
      have hk1f : k1 ≤ 10000000 := by omega
      have hx81 : ((k8 : Nat) : Int) = (k1 : Int) + 1 := by omega
      have HK81 := Lib.hid hx81
      have HB8 := Lib.hid (HALL6.out.trans (hb8.mono HALL6.out.size))
      have htest : ((k8 : Int) == (k1 : Int) + 1) = true := by rw [beq_iff_eq]; exact hx81
      rw [← hk1]
      clear hall8 hls2 hk8 hk1 hk81 hx81 hb8 hx8 hE8 hw8 r1 r2 o2 e1
      go_wp2_with (first
        | (go_at_call 22; refine (HA8.out).mono ?_; rintro e w9 ⟨A9, c9, rfl, hb9⟩)
        | fail)
      go_ret
      exact ⟨rfl, HB8.out.trans (hb9.mono HB8.out.size)⟩
    · have hb8 : Below w6.heap.size w6 w8 := (by rw [hw8]; exact ((HB7.out.setCell (p := ⟨w6.heap.size, 0, none⟩) (Nat.le_refl _) _).setCell (p := ⟨w6.heap.size, 1, none⟩) (Nat.le_refl _) _).setCell (p := ⟨w6.heap.size, 2, none⟩) (Nat.le_refl _) _)
      have hx8 : w8.heap[w6.heap.size]? = some (.cells #[.int .i64 (fq : Int), .int .u8 (qq : Int), .bool cp] 31 (0, 0)) := (by rw [hw8]; exact leaf_set HBX.out)
      have hE8 := (hb8.block w.heap.size hEl6).trans HE6.out
      have y0 : w8.cell? ⟨w6.heap.size, 0, none⟩ = some (.int .i64 (fq : Int)) := one_block hx8 0
      have y1 : w8.cell? ⟨w6.heap.size, 1, none⟩ = some (.int .u8 (qq : Int)) := one_block hx8 1
      have y2 : w8.cell? ⟨w6.heap.size, 2, none⟩ = some (.bool cp) := one_block hx8 2
      have y3 : w8.cell? ⟨w.heap.size, 2, none⟩ = some (.int .i64 (fq : Int)) := one_block hE8 2
      have y4 : w8.cell? ⟨w.heap.size, 3, none⟩ = some (.int .u8 (qq : Int)) := one_block hE8 3
      have y5 : w8.cell? ⟨w.heap.size, 4, none⟩ = some (.bool cp) := one_block hE8 4
      have y6 : w8.cell? ⟨o, 2, none⟩ = some (.pointer (some ⟨t, 0, none⟩)) := (hb8.cell (p := ⟨o, 2, none⟩) hol).trans o2
      have hall8 := tall_any t c a 0 w8 S' p' T' _ _ (HC6.out.pool.below hb8) ((hb8.block t htl).trans HT6.out) hgd hrt
      obtain ⟨ls2, hls2⟩ : ∃ ls2, ls2 = (T'.evs 4 0).flatMap Ev.ls := ⟨_, rfl⟩
      rw [← hls2] at hall8
      obtain ⟨k8, hk8⟩ : ∃ k8, k8 = ls2.length := ⟨_, rfl⟩
      obtain ⟨k1, hk1⟩ : ∃ k1, k1 = ls.length := ⟨_, rfl⟩
      have hk81 : k8 = k1 + 1 := by rw [hk8, hk1, hls2, hlen, HLS.out]
      have HA8 : Hid (Calls Tryz.prog 22 #[.pointer (some ⟨t, 0, none⟩)] w8 fun e w' => ∃ A9 c9, e = .returned (.slice A9 k8 c9) ∧ Below w8.heap.size w8 w') := Lib.hid (hall8.mono fun e w' ⟨A9, c9, he, _, hb⟩ => ⟨A9, c9, by rw [he, hk8], hb⟩)
      have hk1f : k1 ≤ 10000000 := by omega
      have hx81 : ((k8 : Nat) : Int) = (k1 : Int) + 1 := by omega
      have HK81 := Lib.hid hx81
      have HB8 := Lib.hid (HALL6.out.trans (hb8.mono HALL6.out.size))
      have htest : ((k8 : Int) == (k1 : Int) + 1) = true := by rw [beq_iff_eq]; exact hx81
      rw [← hk1]
      clear hall8 hls2 hk8 hk1 hk81 hx81 hb8 hx8 hE8 hw8 r1 r2 o2 e1
      go_wp2_with (first
        | (go_at_call 22; refine (HA8.out).mono ?_; rintro e w9 ⟨A9, c9, rfl, hb9⟩)
        | fail)
      go_ret
      exact ⟨rfl, HB8.out.trans (hb9.mono HB8.out.size)⟩
  · obtain ⟨rfl, hgood, hleft, hor, hle, hsub⟩ := undone_law hfine HRES.out hr0
    have hr0f : (r == 0) = false := by rw [beq_eq_false_iff_ne]; exact hr0
    have o1 : w6.cell? ⟨o, 1, none⟩ = some (.pointer (some ⟨c, 0, none⟩)) := one_block HO6.out 1
    have hsl6 := slots_any c a fs m s.clock w6 L' HC6.out.self HC6.out.slots (by have := hfine.few; omega) (fun x hx => by
      obtain ⟨e1, e2, e3⟩ := hfine.keys x (hsub.subset hx)
      unfold small
      omega)
    obtain ⟨k7, hk7⟩ : ∃ k7, k7 = L'.length := ⟨_, rfl⟩
    have HS6 : Hid (Calls Tryz.prog 24 #[.pointer (some ⟨c, 0, none⟩)] w6 fun e w' => ∃ A9 c9, e = .returned (.slice A9 k7 c9) ∧ Below w6.heap.size w6 w') :=
      Lib.hid (hsl6.mono fun e w' ⟨A9, c9, L7, he, _, hp, _, hb⟩ => ⟨A9, c9, by rw [he, hp.length_eq, hk7], hb⟩)
    obtain ⟨yl, hyl⟩ : ∃ yl, yl = s.p.left := ⟨_, rfl⟩
    obtain ⟨xl, hxl⟩ : ∃ xl, xl = p'.left := ⟨_, rfl⟩
    have hyf : yl ≤ 1024 := by
      have h1 : s.p.left ≤ s.p.n := freeTo_le _ _
      have h2 := hfine.size
      omega
    have HEQ : Hid (xl + k7 = yl + k5) := by
      have h1 := HK5.out
      exact Lib.hid (by omega)
    have h75 : k7 ≤ k5 := by have h1 := HK5.out; omega
    have HOR : Hid (r = 4 ∨ k7 = k5) := Lib.hid (hor.imp id fun e => by have h1 := HK5.out; omega)
    have hkp : ∀ W, Below w6.heap.size w6 W → W.cell? ⟨o, 2, none⟩ = some (.pointer (some ⟨t, 0, none⟩)) ∧ W.cell? ⟨o, 0, none⟩ = some (.pointer (some ⟨a, 0, none⟩)) := fun W hW =>
      ⟨(hW.cell (p := ⟨o, 2, none⟩) hol).trans (one_block HO6.out 2), (hW.cell (p := ⟨o, 0, none⟩) hol).trans (one_block HO6.out 0)⟩
    have hac : ∀ W, Below w6.heap.size w6 W → Calls Tryz.prog 22 #[.pointer (some ⟨t, 0, none⟩)] W fun e w' => ∃ A3 c3, e = .returned (.slice A3 ls.length c3) ∧ Below w6.heap.size w6 w' ∧
        Hid (Calls Tryz.prog 31 #[.slice A3 ls.length c3, .slice A1 ls.length c1] w' fun e w'' => e = .returned (.bool true) ∧ Below w6.heap.size w6 w'' ∧ (w''.cell? ⟨o, 2, none⟩ = some (.pointer (some ⟨t, 0, none⟩)) ∧ w''.cell? ⟨o, 0, none⟩ = some (.pointer (some ⟨a, 0, none⟩)))) := fun W hW => by
      have h9 := tall_any t c a 0 W S' p' s.T _ _ (HC6.out.pool.below hW) ((hW.block t htl).trans HT6.out) hgood hfine.root
      rw [← HLS.out] at h9
      refine h9.mono ?_
      rintro e w' ⟨A3, c3, rfl, hown, hb⟩
      have hb' : Below w6.heap.size w6 w' := hW.trans (hb.mono hW.size)
      refine ⟨A3, c3, rfl, hb', Lib.hid ((samePuts_yes W.heap.size w1.heap.size A3 A1 c3 c1 ls w' hown (HR16.out.kept hb') hlsN).mono ?_)⟩
      rintro e w'' ⟨rfl, hb2⟩
      have hb'' := hb'.trans (hb2.mono hb'.size)
      exact ⟨rfl, hb'', hkp _ hb''⟩
    have hnc : ∀ W, Below w6.heap.size w6 W → Calls Tryz.prog 23 #[.pointer (some ⟨t, 0, none⟩)] W fun e w' => ∃ A3 c3, e = .returned (.slice A3 ns.length c3) ∧ Below w6.heap.size w6 w' ∧
        Hid (Calls Tryz.prog 32 #[.slice A3 ns.length c3, .slice A2 ns.length c2] w' fun e w'' => e = .returned (.bool true) ∧ Below w6.heap.size w6 w'' ∧ (w''.cell? ⟨o, 2, none⟩ = some (.pointer (some ⟨t, 0, none⟩)) ∧ w''.cell? ⟨o, 0, none⟩ = some (.pointer (some ⟨a, 0, none⟩)))) := fun W hW => by
      have h9 := tnodes_any t c a 0 W S' p' s.T _ _ (HC6.out.pool.below hW) ((hW.block t htl).trans HT6.out) hgood hfine.root
      rw [← HNS.out] at h9
      refine h9.mono ?_
      rintro e w' ⟨A3, c3, rfl, hown, hb⟩
      have hb' : Below w6.heap.size w6 w' := hW.trans (hb.mono hW.size)
      refine ⟨A3, c3, rfl, hb', Lib.hid ((sameInts_yes W.heap.size w2.heap.size A3 A2 c3 c2 ns w' hown (HR26.out.kept hb') hnsN).mono ?_)⟩
      rintro e w'' ⟨rfl, hb2⟩
      have hb'' := hb'.trans (hb2.mono hb'.size)
      exact ⟨rfl, hb'', hkp _ hb''⟩
    have hfr : ∀ W, Below w6.heap.size w6 W → Calls Tryz.prog 28 #[.pointer (some ⟨a, 0, none⟩)] W fun e w' => e = .returned (.int .i64 (xl : Int)) ∧ W = w' := fun W hW => by
      rw [hxl]
      exact pfree_any a W S' p' (HC6.out.pool.below hW)
    have hwk : ∀ W, Below w6.heap.size w6 W → Calls Tryz.prog 8 #[] W fun e w' => e = .returned (.bool true) ∧ Below w.heap.size w w' := fun W hW => by
      have hWw := HALL6.out.trans (hW.mono HALL6.out.size)
      refine (HWK.out W hWw).mono ?_
      rintro e w' ⟨rfl, hb⟩
      exact ⟨rfl, hWw.trans (hb.mono hWw.size)⟩
    have HKP := Lib.hid hkp
    have HAC := Lib.hid hac
    have HNC := Lib.hid hnc
    have HFR := Lib.hid hfr
    have HWK6 := Lib.hid hwk
    rw [← hyl]
    have hsum : ((xl : Int) == (yl : Int) + ((k5 : Int) - (k7 : Int))) = true := by
      have h1 := HEQ.out
      rw [beq_iff_eq]; omega
    have hor4 : ((r == 4) || ((k5 : Int) - (k7 : Int) == 0)) = true := by
      rcases HOR.out with h1 | h1
      · rw [h1]; rfl
      · have : ((k5 : Int) - (k7 : Int) == 0) = true := by rw [beq_iff_eq]; omega
        rw [this, Bool.or_true]
    have h57 : 0 ≤ (k5 : Int) - (k7 : Int) := by omega
    clear hsl6 hk7 hyl hxl hkp hac hnc hfr hwk hor hleft hle hsub hr0
    go_upto_region 15 with (first
      | (go_at_call 24; refine (HS6.out).mono ?_; rintro e w7 ⟨A9, c9, rfl, hb7⟩; obtain ⟨x2, x0⟩ := HKP.out _ hb7)
      | fail)
    go_wp2_with (first
      | (go_at_call 22; refine (HAC.out _ hb7).mono ?_; rintro e w8 ⟨A3, c3, rfl, hb8, HSP⟩)
      | (go_at_call 31; refine (HSP.out).mono ?_; rintro e w9 ⟨rfl, hb9, s1, s2⟩)
      | (go_at_call 23; refine (HNC.out _ hb9).mono ?_; rintro e w10 ⟨A4, c4, rfl, hb10, HSI⟩)
      | (go_at_call 32; refine (HSI.out).mono ?_; rintro e w11 ⟨rfl, hb11, v1, v2⟩)
      | (go_at_call 28; refine (HFR.out _ hb11).mono ?_; rintro e w12 ⟨rfl, rfl⟩)
      | (go_at_call 8; refine (HWK6.out _ hb11).mono ?_; rintro e w13 ⟨rfl, hb13⟩)
      | fail)
    all_goals
      go_ret
      exact ⟨rfl, hb13⟩

end Go.Proofs.YtmkgdgfbdmjeeaaGreatDoor
