/- TableBack, its walk. -/
import Derived.Test.YtmkgdgfbdmjeeaaDoorLwF
import Derived.Test.YtmkgdgfbdmjeeaaDoorLwH
namespace Go.Proofs.YtmkgdgfbdmjeeaaDoor
open Go.RowKit Go.Sort
set_option linter.unusedSimpArgs false
set_option linter.unusedVariables false

/-- What was mapped and is unmapped: the table is what it was, the frame is counted once less. -/
theorem back_law {s : Sta} {root n k : Nat} (h : s.Fine root n k) {pg : Nat} {l : Leaf} {p' p'' : Pool} {T' T'' : Tab} {L' : List Slot} (hpg : pg < pagesN) (hno : s.T.lf pg = none) (hr : MapRes s.p s.T s.L (cntH s.hold) pg l 0 p' T' L') (hl : l.frame < n)
    (hu : Gone p' T' (held L' (cntH s.hold)) pg 4 p'' T'') : T'' = s.T ∧ p''.cnt l.frame + 1 = p'.cnt l.frame := by
  obtain ⟨g1, g2, g3, g4, g5⟩ := hr
  rcases g5 with ⟨e, _⟩ | ⟨_, hlf, hnd, hnode⟩
  · cases e
  have hb : T''.lf = s.T.lf := by
    rw [hu.lf, hlf]
    have e : (none : Option Leaf) = s.T.lf pg := hno.symm
    rw [e]
    exact upd_back _ _ _
  have hT : T'' = s.T := h.good.ok.back (h' := (hu.good.any 0 4).ok) hb hnd (fun lv q f hf => hu.sub _ _ _ hf)
  refine ⟨hT, ?_⟩
  have hn' : l.frame < p'.n := by rw [g2, h.size]; exact hl
  have hc' := g1.cnt l.frame hn'
  have hc'' := hu.good.cnt l.frame (by rw [hu.n]; exact hn')
  rw [hT] at hc''
  have h1 : nodeCnt T' l.frame = nodeCnt s.T l.frame := nodeCnt_congr ⟨hnode, fun ⟨lv, q, e⟩ => ⟨lv, q, hnd _ _ _ e⟩⟩
  have h2 : leafCnt T' l.frame = leafCnt (s.T.lay pg (some l)) l.frame := by
    unfold leafCnt
    refine cntTo_congr fun i _ => ?_
    unfold leafIs
    rw [hlf]
    rfl
  have h3 := leafCnt_lay (t := s.T) hpg (some l) l.frame
  have h4 : leafIs s.T l.frame pg = false := leafIs_none hno
  rw [h4] at h3
  simp only [if_pos rfl] at h3
  simp at h3
  omega

theorem unmap_after {p p' : Pool} {T T' : Tab} {L L' : List Slot} {hold rest : Nat → Nat} {A r : Int} {l : Leaf} {p'' : Pool} {T'' : Tab} (hr : MapRes p T L hold (A.toNat / 4096) l 0 p' T' L') (hA : A < 140737488355328) (hu : UnRes p' T' rest A r p'' T'') : r = 0 ∧ Gone p' T' rest (A.toNat / 4096) 4 p'' T'' := by
  obtain ⟨_, _, _, _, g5⟩ := hr
  rcases g5 with ⟨e, _⟩ | ⟨_, hlf, _, _⟩
  · cases e
  rcases hu with ⟨_, _, _, h⟩ | ⟨h1, _, _, h2⟩
  · rcases h with ⟨_, h⟩ | ⟨_, _, h⟩
    · omega
    · rw [hlf, upd_same] at h; cases h
  · exact ⟨h1, h2⟩

set_option maxRecDepth 100000 in
set_option maxHeartbeats 4000000 in
theorem tableBack_any (n : Int) (A : Option Addr) (len cap : Nat) (op : Op) (w : World) (hop : op.Ok) (hA : ArgO w A len cap) (hdb : DB w) (hw0 : 0 < w.heap.size) :
    Calls Tryd.prog 7 #[.int .i64 n, .slice A len cap, op.val] w (LawPost w) := by
  obtain ⟨K, AA, fr, q, cp, N⟩ := op
  obtain ⟨hlen0, hl⟩ := hA
  obtain ⟨w0, hwd⟩ : ∃ w0, w0 = w.alloc (.cells #[.int .i64 K, .int .u64 AA, .int .i64 fr, .int .u8 q, .bool cp, .int .i64 N] 24) := ⟨_, rfl⟩
  have hb0 : Below w.heap.size w w0 := by rw [hwd]; exact (Below.refl _ _).alloc (Nat.le_refl _) _
  have hE : w0.heap[w.heap.size]? = some (.cells #[.int .i64 K, .int .u64 AA, .int .i64 fr, .int .u8 q, .bool cp, .int .i64 N] 24 (0, 0)) := by rw [hwd]; exact heap_alloc_new w _
  have l0 : w.heap.size < w0.heap.size := (Array.getElem?_eq_some_iff.1 hE).1
  have hdb0 : DB w0 := hdb.same (hb0.block 0 hw0)
  have HWK := Lib.hid (fun W (hW : Below w.heap.size w W) => works_any W (hdb.same (hW.block 0 hw0)) (Nat.lt_of_lt_of_le hw0 hW.size))
  have HE := Lib.hid hE
  have HWD := Lib.hid hwd
  have HDB0 := Lib.hid hdb0
  have hopA : 0 ≤ AA := hop.a0
  have hopQ : 0 ≤ q := hop.p0
  show Calls Tryd.prog 7 #[.int .i64 n, .slice A len cap, .agg #[.int .i64 K, .int .u64 AA, .int .i64 fr, .int .u8 q, .bool cp, .int .i64 N]] w (LawPost w)
  clear hE hwd hdb0 hdb hop
  by_cases hv : 96 < n ∨ (120 : Int) < (len : Int)
  · have HV := Lib.hid (fun W => vast_yes n A len cap W hv)
    clear hv
    go_enter Tryd.func7, Tryd.ntmps7
    go_upto_region 1 with (fail)
    rw [← HWD.out]
    go_wp2_with (first
      | (go_at_call 25; refine (HV.out _).mono ?_; rintro e w1 ⟨rfl, rfl⟩)
      | (go_at_call 24; refine (HWK.out _ hb0).mono ?_; rintro e w2 ⟨rfl, hb2⟩)
      | fail)
    go_ret
    exact ⟨rfl, hb0.trans (hb2.mono hb0.size)⟩
  have hn96 : n ≤ 96 := by omega
  have hk120 : (len : Int) ≤ 120 := by omega
  have HV := Lib.hid (fun W => vast_no n A len cap W hn96 hk120)
  clear hv
  by_cases hn1 : n < 1
  · have HBH := Lib.hid (behind_bad n A len cap w0 hn1 (by omega))
    clear hn1
    go_enter Tryd.func7, Tryd.ntmps7
    go_upto_region 1 with (fail)
    rw [← HWD.out]
    go_wp2_with (first
      | (go_at_call 25; refine (HV.out _).mono ?_; rintro e w1 ⟨rfl, rfl⟩)
      | (go_at_call 26; refine (HBH.out).mono ?_; rintro e w1 ⟨rfl, hb1⟩; have hb1 := hb0.trans (hb1.mono hb0.size))
      | (go_at_call 24; refine (HWK.out _ hb1).mono ?_; rintro e w2 ⟨rfl, hb2⟩)
      | fail)
    go_ret
    exact ⟨rfl, hb1.trans (hb2.mono hb1.size)⟩
  obtain ⟨l, hsl⟩ := hl (by omega)
  obtain ⟨n, rfl⟩ : ∃ m : Nat, n = (m : Int) := ⟨n.toNat, by omega⟩
  have HBH := Lib.hid (behind_any n len cap A l w0 (by omega) (by omega) ((hsl.below hb0 (Nat.le_refl _)).more (by omega)) (by omega) HDB0.out (by omega))
  clear hsl hl hn1
  go_enter Tryd.func7, Tryd.ntmps7
  go_upto_region 1 with (fail)
  rw [← HWD.out]
  go_upto_region 6 with (first
    | (go_at_call 25; refine (HV.out _).mono ?_; rintro e w1 ⟨rfl, rfl⟩)
    | (go_at_call 26; refine (HBH.out).mono ?_; rintro e w1 ⟨B, o, a, c, fs, m, t, S, s, H, cap', rfl, hrun, hfine, hb1, hB⟩; have HRUN := Lib.hid hrun; have HB1 := Lib.hid (hb0.trans (hb1.mono hb0.size)); have hE1 := (hb1.block _ l0).trans HE.out; have HE1 := Lib.hid hE1; clear hrun hb1 hE1)
    | fail)
  obtain ⟨l1, l2, l3, l4, l5⟩ := HRUN.out.lts
  have hO1 := HRUN.out.own.self
  have o2 : w1.cell? ⟨o, 2, none⟩ = some (.pointer (some ⟨t, 0, none⟩)) := one_block hO1 2
  have hallc := tall_any t c a 0 w1 S s.p s.T _ 0 HRUN.out.own.cache.pool HRUN.out.own.tab hfine.good hfine.root
  obtain ⟨ls, hls⟩ : ∃ ls, ls = (s.T.evs 4 0).flatMap Ev.ls := ⟨_, rfl⟩
  obtain ⟨ns, hns⟩ : ∃ ns, ns = (s.T.evs 4 0).flatMap Ev.ns := ⟨_, rfl⟩
  rw [← hls] at hallc
  have hlsN : ls.length ≤ 10000000 := by
    rw [hls]
    exact Nat.le_trans (flatMap_few (F := Ev.ls) (fun e => by cases e <;> simp [Ev.ls]) _) (Nat.le_trans hfine.good.ok.short (by decide))
  have hnsN : ns.length ≤ 10000000 := by
    rw [hns]
    exact Nat.le_trans (flatMap_few (F := Ev.ns) (fun e => by cases e <;> simp [Ev.ns]) _) (Nat.le_trans hfine.good.ok.short (by decide))
  have HALLC := Lib.hid hallc
  have HLS := Lib.hid hls
  have HNS := Lib.hid hns
  clear hO1 hallc hls hns
  go_upto_region 7 with (first
    | (go_at_call 21; refine (HALLC.out).mono ?_; rintro e w2 ⟨A1, c1, rfl, hown1, hb2⟩; have HR1 := Lib.hid hown1; have HB2 := Lib.hid hb2; clear hown1 hb2)
    | fail)
  have hrun2 := HRUN.out.below HB2.out
  have hO2 := hrun2.own.self
  have o2' : w2.cell? ⟨o, 2, none⟩ = some (.pointer (some ⟨t, 0, none⟩)) := one_block hO2 2
  have hnodc := tnodes_any t c a 0 w2 S s.p s.T _ 0 hrun2.own.cache.pool hrun2.own.tab hfine.good hfine.root
  rw [← HNS.out] at hnodc
  have HNODC := Lib.hid hnodc
  clear hnodc
  have HRUN2 := Lib.hid hrun2
  clear hO2 hrun2 o2
  go_upto_region 8 with (first
    | (go_at_call 22; refine (HNODC.out).mono ?_; rintro e w3 ⟨A2, c2, rfl, hown2, hb3⟩; have HR2 := Lib.hid hown2; have HB3 := Lib.hid hb3; clear hown2 hb3)
    | fail)
  have hz2 := HB2.out.size
  have hz3 := HB3.out.size
  have hrun3 := HRUN2.out.below HB3.out
  have hO3 := hrun3.own.self
  have hE3 := (HB3.out.block w.heap.size (by have := (Array.getElem?_eq_some_iff.1 HE1.out).1; omega)).trans ((HB2.out.block w.heap.size (Array.getElem?_eq_some_iff.1 HE1.out).1).trans HE1.out)
  have o2 : w3.cell? ⟨o, 2, none⟩ = some (.pointer (some ⟨t, 0, none⟩)) := one_block hO3 2
  have e1 : w3.cell? ⟨w.heap.size, 1, none⟩ = some (.int .u64 AA) := one_block hE3 1
  have e2 : w3.cell? ⟨w.heap.size, 2, none⟩ = some (.int .i64 fr) := one_block hE3 2
  have e3 : w3.cell? ⟨w.heap.size, 3, none⟩ = some (.int .u8 q) := one_block hE3 3
  have e4 : w3.cell? ⟨w.heap.size, 4, none⟩ = some (.bool cp) := one_block hE3 4
  have hd3 : Below w3.heap.size w3 w3.drew := (Below.refl _ _).drew
  have hmap := tmap_any t c a 0 fs m s.clock AA fr q cp w3.drew S s.p s.T s.L (cntH s.hold) 0 (hrun3.own.cache.below hd3) ((hd3.block t hrun3.lts.2.1).trans hrun3.own.tab) hrun3.own.noS.2 hrun3.own.ne.2.2.2.1 hfine.good hfine.root hopA hopQ (hfine.cap (by omega))
  have HMAP := Lib.hid hmap
  have HRUN3 := Lib.hid hrun3
  have HE3 := Lib.hid hE3
  clear hmap hrun3 hO3 hE3 o2' HALLC HNODC hd3
  go_still_tail 13, (by kernel_rfl)
  go_wp2_with fail
  refine (HMAP.out).mono ?_
  rintro e w4 ⟨r, p', T', L', S', rfl, hC4, hm4', ho4', hres⟩
  have hm4 : Mod (Both S m) w3 w4 := hm4'.undrew
  have ho4 : Out S S' w3 := ho4'
  have hz4 := hm4.size
  have hall4 : Below w.heap.size w w4 := by
    have h34 := hm4.below (B := B) (fun b hb => hb.elim (HRUN.out.own.low b) (fun e => by have := HRUN.out.own.lows; omega)) (by have := HRUN.out.base; omega)
    have hz1 := HB1.out.size
    exact HB1.out.trans ((HB2.out.mono hz1).trans ((HB3.out.mono (by omega)).trans (h34.mono (by omega))))
  have HALL4 := Lib.hid hall4
  clear hm4' ho4' hall4 o2 e1 e2 e3 e4
  by_cases hr0 : r = 0
  rotate_left
  · have hne : (r != 0) = true := by rw [bne_iff_ne]; exact hr0
    clear hr0 hres hC4 hm4 ho4
    go_wp2_with (first
      | (go_at_call 24; refine (HWK.out _ HALL4.out).mono ?_; rintro e w5 ⟨rfl, hb5⟩)
      | fail)
    go_ret
    exact ⟨rfl, HALL4.out.trans (hb5.mono HALL4.out.size)⟩
  subst hr0
  have hres3 : ¬ MapBad s.p AA fr q ∧ (s.T.lf (AA.toNat / 4096)).isSome = false ∧ MapRes s.p s.T s.L (cntH s.hold) (AA.toNat / 4096) ⟨fr.toNat, q.toNat, cp⟩ 0 p' T' L' := by
    rcases hres with ⟨_, h9, _⟩ | ⟨_, _, h9, _⟩ | h9
    · cases h9
    · cases h9
    · exact h9
  obtain ⟨hnb, hno, hmr⟩ := hres3
  have hb4 : AA < 140737488355328 ∧ countB s.p fr ≠ 0 := by unfold MapBad at hnb; omega
  obtain ⟨hAA, hcb⟩ := hb4
  obtain ⟨g, rfl, hgn, hg1⟩ := countB_yes hcb
  have hgn' : g < n := by rw [← hfine.size]; exact hgn
  have hpgN : AA.toNat / 4096 < pagesN := by unfold pagesN; omega
  have hno' : s.T.lf (AA.toNat / 4096) = none := by
    cases hc : s.T.lf (AA.toNat / 4096) with
    | none => rfl
    | some y => rw [hc] at hno; cases hno
  have hroot' : T'.nd 4 0 = some 0 := by
    obtain ⟨_, _, _, _, g5⟩ := hmr
    rcases g5 with ⟨e, _⟩ | ⟨_, _, hnd, _⟩
    · cases e
    · exact hnd _ _ _ hfine.root
  have hgoodM := hmr.1
  have hne := HRUN.out.own.ne
  have hnoS := HRUN.out.own.noS
  have hoM : ¬ Both S m o := fun e => e.elim hnoS.1 hne.2.1
  have htM : ¬ Both S m t := fun e => e.elim hnoS.2 hne.2.2.2.1
  have hO4 := (hm4.block o (by omega) hoM).trans HRUN3.out.own.self
  have hT4 : TabSelf w4 t c a 0 := (hm4.block t (by omega) htM).trans HRUN3.out.own.tab
  have hEw : w.heap.size < w3.heap.size := (Array.getElem?_eq_some_iff.1 HE3.out).1
  have hEM : ∀ b, b < B → ¬ Both S m b := fun b hb e => e.elim (fun e => by have := HRUN.out.own.low b e; omega) (fun e => by have := HRUN.out.own.lows; omega)
  have hBw : w.heap.size < B := by omega
  have hE4 := (hm4.block w.heap.size hEw (hEM _ hBw)).trans HE3.out
  have hS'b : ∀ b, S' b → S b ∨ w3.heap.size ≤ b := ho4
  have htS' : ¬ S' t := fun e => (hS'b t e).elim hnoS.2 (by omega)
  have hoS' : ¬ S' o := fun e => (hS'b o e).elim hnoS.1 (by omega)
  have hES' : ¬ S' w.heap.size := fun e => (hS'b _ e).elim (fun e => by have := HRUN.out.own.low _ e; omega) (by omega)
  have d0 : ∀ d os, (grow (redrawn w4 d) os).cell? ⟨o, 0, none⟩ = some (.pointer (some ⟨a, 0, none⟩)) := fun d os => cell_regrown (one_block hO4 0) d os
  have d1 : ∀ d os, (grow (redrawn w4 d) os).cell? ⟨w.heap.size, 2, none⟩ = some (.int .i64 (g : Int)) := fun d os => cell_regrown (one_block hE4 2) d os
  obtain ⟨k1, hk1⟩ : ∃ k1 : Nat, k1 = p'.cnt g := ⟨_, rfl⟩
  have hp'n : g < p'.n := by rw [hmr.2.1]; exact hgn
  have hG := fun d os => Calls.regrown_of ((count_any a (g : Int) (grow (redrawn w4 d) os) S' p' (hC4.pool.below (below_regrown w4 d os))).mono fun _ _ ⟨h1, h2⟩ => ⟨h1, h2 ▸ Below.refl _ _⟩)
  rw [countB_nat hp'n, ← hk1] at hG
  have HG := Lib.hid hG
  have HC4 := Lib.hid hC4
  have HM4 := Lib.hid hm4
  have HO4 := Lib.hid hO4
  have HT4 := Lib.hid hT4
  have HE4 := Lib.hid hE4
  have HMR := Lib.hid hmr
  have HNO := Lib.hid hno'
  have HGM := Lib.hid hgoodM
  have HK1 := Lib.hid hk1
  clear hG hC4 hm4 hO4 hT4 hE4 hres hnb hno hmr hno' hgoodM hk1 hcb ho4 hEM
  go_upto_region 11 with (fail)
  refine wp_region_quiet_below (by kernel_rfl) (by kernel_rfl) ?_; (repeat (go_big_quiet_step ((exact HG.out _ _)))); refine wpQuiet_nil ?_; intro _ hw'; obtain ⟨⟨dq, osq⟩, hw''⟩ := hw'; subst hw''; have hbq := below_regrown (w4) dq osq; generalize grow (redrawn (w4) dq) osq = wq at hbq ⊢
  clear d0 d1
  have hzq := hbq.size
  have hol : o < w4.heap.size := (Array.getElem?_eq_some_iff.1 HO4.out).1
  have htl : t < w4.heap.size := (Array.getElem?_eq_some_iff.1 HT4.out).1
  have hEl : w.heap.size < w4.heap.size := by omega
  have o2 : wq.cell? ⟨o, 2, none⟩ = some (.pointer (some ⟨t, 0, none⟩)) := (hbq.cell (p := ⟨o, 2, none⟩) hol).trans (one_block HO4.out 2)
  have e1 : wq.cell? ⟨w.heap.size, 1, none⟩ = some (.int .u64 AA) := (hbq.cell (p := ⟨w.heap.size, 1, none⟩) hEl).trans (one_block HE4.out 1)
  have hdq : Below wq.heap.size wq wq.drew := (Below.refl _ _).drew
  have hbqd : Below w4.heap.size w4 wq.drew := hbq.trans (hdq.mono hzq)
  have hun := tunmap_any t c a 0 AA wq.drew S' p' T' _ _ (HC4.out.pool.below hbqd) ((hbqd.block t htl).trans HT4.out) htS' HGM.out hroot' hopA
  have HUN := Lib.hid hun
  have HBQ := Lib.hid hbq
  clear hun hdq hbqd hbq
  go_upto_region 12 with (fail)
  go_still_tail 6, (by kernel_rfl)
  go_wp2_with fail
  refine (HUN.out).mono ?_
  rintro e w6 ⟨r2, p2, T2, rfl, hP6, hm6', hu2⟩
  obtain ⟨rfl, hgone⟩ := unmap_after HMR.out hAA hu2
  obtain ⟨rfl, hcnt⟩ := back_law hfine hpgN HNO.out HMR.out (by simpa using hgn') hgone
  have hcnt2 : p2.cnt g + 1 = k1 := by rw [HK1.out]; simpa using hcnt
  have hm6 : Mod S' wq w6 := hm6'.undrew
  have hz6 := hm6.size
  have hp2n : g < p2.n := by rw [hgone.n]; exact hp'n
  have hO6 := (hm6.block o (by omega) hoS').trans ((HBQ.out.block o hol).trans HO4.out)
  have hT6 : TabSelf w6 t c a 0 := (hm6.block t (by omega) htS').trans ((HBQ.out.block t htl).trans HT4.out)
  have hE6 := (hm6.block w.heap.size (by omega) hES').trans ((HBQ.out.block w.heap.size hEl).trans HE4.out)
  have hkeep : ∀ b, w1.heap.size ≤ b → b < w3.heap.size → w6.heap[b]? = w3.heap[b]? := fun b h1 h2 =>
    (hm6.block b (by omega) (fun e => (hS'b b e).elim (fun e => by have := l5 b e; omega) (fun e => by omega))).trans ((HBQ.out.block b (by omega)).trans (HM4.out.block b h2 (fun e => e.elim (fun e => by have := l5 b e; omega) (fun e => by omega))))
  have hr1 : OwnP w6 w1.heap.size A1 c1 ls := HR1.out.same fun g9 hg9 => by
    rcases HR1.out.form with ⟨e, _⟩ | ⟨g8, e, h8, h7, _⟩
    · rw [e] at hg9; cases hg9
    · rw [e] at hg9; injection hg9 with hg9; injection hg9 with hg9; subst hg9
      exact (hkeep _ h8 (by omega)).trans (HB3.out.block _ h7)
  have hr2 : OwnN w6 w2.heap.size A2 c2 ns := HR2.out.same fun g9 hg9 => by
    rcases HR2.out.form with ⟨e, _⟩ | ⟨g8, e, h8, h7, _⟩
    · rw [e] at hg9; cases hg9
    · rw [e] at hg9; injection hg9 with hg9; injection hg9 with hg9; subst hg9
      exact hkeep _ (by omega) h7
  have ho6 : o < w6.heap.size := by omega
  have hE6l : w.heap.size < w6.heap.size := by omega
  have hkp : ∀ W, Below w6.heap.size w6 W → W.cell? ⟨o, 2, none⟩ = some (.pointer (some ⟨t, 0, none⟩)) ∧ W.cell? ⟨o, 0, none⟩ = some (.pointer (some ⟨a, 0, none⟩)) ∧ W.cell? ⟨w.heap.size, 2, none⟩ = some (.int .i64 (g : Int)) := fun W hW =>
    ⟨(hW.cell (p := ⟨o, 2, none⟩) ho6).trans (one_block hO6 2), (hW.cell (p := ⟨o, 0, none⟩) ho6).trans (one_block hO6 0), (hW.cell (p := ⟨w.heap.size, 2, none⟩) hE6l).trans (one_block hE6 2)⟩
  have hac : ∀ W, Below w6.heap.size w6 W → Calls Tryd.prog 21 #[.pointer (some ⟨t, 0, none⟩)] W fun e w' => ∃ A3 c3, e = .returned (.slice A3 ls.length c3) ∧ Below w6.heap.size w6 w' ∧ (w'.cell? ⟨o, 2, none⟩ = some (.pointer (some ⟨t, 0, none⟩)) ∧ w'.cell? ⟨o, 0, none⟩ = some (.pointer (some ⟨a, 0, none⟩)) ∧ w'.cell? ⟨w.heap.size, 2, none⟩ = some (.int .i64 (g : Int))) ∧
      Hid (Calls Tryd.prog 33 #[.slice A3 ls.length c3, .slice A1 ls.length c1] w' fun e w'' => e = .returned (.bool true) ∧ Below w6.heap.size w6 w'' ∧ (w''.cell? ⟨o, 2, none⟩ = some (.pointer (some ⟨t, 0, none⟩)) ∧ w''.cell? ⟨o, 0, none⟩ = some (.pointer (some ⟨a, 0, none⟩)) ∧ w''.cell? ⟨w.heap.size, 2, none⟩ = some (.int .i64 (g : Int)))) := fun W hW => by
    have h9 := tall_any t c a 0 W S' p2 s.T _ _ (hP6.below hW) ((hW.block t (by omega)).trans hT6) hgone.good hfine.root
    rw [← HLS.out] at h9
    refine h9.mono ?_
    rintro e w' ⟨A3, c3, rfl, hown, hb⟩
    have hb' : Below w6.heap.size w6 w' := hW.trans (hb.mono hW.size)
    refine ⟨A3, c3, rfl, hb', hkp _ hb', Lib.hid ((samePuts_yes W.heap.size w1.heap.size A3 A1 c3 c1 ls w' hown (hr1.kept hb') hlsN).mono ?_)⟩
    rintro e w'' ⟨rfl, hb2⟩
    have hb'' := hb'.trans (hb2.mono hb'.size)
    exact ⟨rfl, hb'', hkp _ hb''⟩
  have hnc : ∀ W, Below w6.heap.size w6 W → Calls Tryd.prog 22 #[.pointer (some ⟨t, 0, none⟩)] W fun e w' => ∃ A3 c3, e = .returned (.slice A3 ns.length c3) ∧ Below w6.heap.size w6 w' ∧ (w'.cell? ⟨o, 2, none⟩ = some (.pointer (some ⟨t, 0, none⟩)) ∧ w'.cell? ⟨o, 0, none⟩ = some (.pointer (some ⟨a, 0, none⟩)) ∧ w'.cell? ⟨w.heap.size, 2, none⟩ = some (.int .i64 (g : Int))) ∧
      Hid (Calls Tryd.prog 34 #[.slice A3 ns.length c3, .slice A2 ns.length c2] w' fun e w'' => e = .returned (.bool true) ∧ Below w6.heap.size w6 w'' ∧ (w''.cell? ⟨o, 2, none⟩ = some (.pointer (some ⟨t, 0, none⟩)) ∧ w''.cell? ⟨o, 0, none⟩ = some (.pointer (some ⟨a, 0, none⟩)) ∧ w''.cell? ⟨w.heap.size, 2, none⟩ = some (.int .i64 (g : Int)))) := fun W hW => by
    have h9 := tnodes_any t c a 0 W S' p2 s.T _ _ (hP6.below hW) ((hW.block t (by omega)).trans hT6) hgone.good hfine.root
    rw [← HNS.out] at h9
    refine h9.mono ?_
    rintro e w' ⟨A3, c3, rfl, hown, hb⟩
    have hb' : Below w6.heap.size w6 w' := hW.trans (hb.mono hW.size)
    refine ⟨A3, c3, rfl, hb', hkp _ hb', Lib.hid ((sameInts_yes W.heap.size w2.heap.size A3 A2 c3 c2 ns w' hown (hr2.kept hb') hnsN).mono ?_)⟩
    rintro e w'' ⟨rfl, hb2⟩
    have hb'' := hb'.trans (hb2.mono hb'.size)
    exact ⟨rfl, hb'', hkp _ hb''⟩
  obtain ⟨k2, hk2⟩ : ∃ k2 : Nat, k2 = p2.cnt g := ⟨_, rfl⟩
  have hcn : ∀ W, Below w6.heap.size w6 W → Calls Tryd.prog 30 #[.pointer (some ⟨a, 0, none⟩), .int .i64 (g : Int)] W fun e w' => e = .returned (.int .i64 (k2 : Int)) ∧ W = w' := fun W hW => by
    have h9 := count_any a (g : Int) W S' p2 (hP6.below hW)
    rw [countB_nat hp2n, ← hk2] at h9
    exact h9
  have hcap : p2.cnt g < 1000000000000 := by
    obtain ⟨C9, B9, F9, wd9, pt9, hpi, _⟩ := hP6.is
    exact hpi.cap g
  have hwr : IntKind.i64.wrap ((k1 : Int) - 1) = (k2 : Int) := by rw [IntKind.wrap_i64]; omega
  have hall6 : Below w.heap.size w w6 := by
    have hz4w := HALL4.out.size
    refine ⟨hm6.os.trans (HBQ.out.os.trans HALL4.out.os), hm6.tape.trans (HBQ.out.tape.trans HALL4.out.tape), hm6.output.trans (HBQ.out.output.trans HALL4.out.output), by omega, fun b hb => ?_⟩
    exact (hm6.block b (by omega) (fun e => (hS'b b e).elim (fun e => by have := HRUN.out.own.low b e; omega) (fun e => by omega))).trans ((HBQ.out.block b (by omega)).trans (HALL4.out.block b hb))
  have hwk : ∀ W, Below w6.heap.size w6 W → Calls Tryd.prog 24 #[] W fun e w' => e = .returned (.bool true) ∧ Below w.heap.size w w' ∧ (w'.cell? ⟨o, 2, none⟩ = some (.pointer (some ⟨t, 0, none⟩)) ∧ w'.cell? ⟨o, 0, none⟩ = some (.pointer (some ⟨a, 0, none⟩)) ∧ w'.cell? ⟨w.heap.size, 2, none⟩ = some (.int .i64 (g : Int))) := fun W hW => by
    have hWw := hall6.trans (hW.mono hall6.size)
    refine (HWK.out W hWw).mono ?_
    rintro e w' ⟨rfl, hb⟩
    exact ⟨rfl, hWw.trans (hb.mono hWw.size), hkp _ (hW.trans (hb.mono hW.size))⟩
  obtain ⟨q1, q2, q3⟩ := hkp w6 (Below.refl _ _)
  have HAC := Lib.hid hac
  have HNC := Lib.hid hnc
  have HCN := Lib.hid hcn
  have HWK6 := Lib.hid hwk
  have hd6 : Below w6.heap.size w6 w6.drew := (Below.refl _ _).drew
  clear hac hnc hcn hwk hkp hkeep hr1 hr2 hO6 hT6 hE6 hP6 hm6 hm6' hgone hu2 hcnt hcnt2 hk2 hall6 o2 e1 hcap
  go_upto_region 13 with (fail)
  go_region_held3 (fun w' => w'.cell? ⟨o, 2, none⟩ = some (.pointer (some ⟨t, 0, none⟩)) ∧ w'.cell? ⟨o, 0, none⟩ = some (.pointer (some ⟨a, 0, none⟩)) ∧ w'.cell? ⟨w.heap.size, 2, none⟩ = some (.int .i64 (g : Int)))
    ((first | (simp [*]; done) | exact ⟨r1, r2, r3⟩ | exact ⟨s1, s2, s3⟩ | exact ⟨t1, t2, t3⟩ | exact ⟨x1, x2, x3⟩ | exact ⟨v1, v2, v3⟩))
    ((first
      | (go_at_call 21; refine (HAC.out _ hd6).mono ?_; rintro e w7 ⟨A3, c3, rfl, hb7, ⟨r1, r2, r3⟩, HSP⟩)
      | (go_at_call 33; refine (HSP.out).mono ?_; rintro e w8 ⟨rfl, hb8, ⟨s1, s2, s3⟩⟩)
      | (go_at_call 22; refine (HNC.out _ hb8).mono ?_; rintro e w9 ⟨A4, c4, rfl, hb9, ⟨t1, t2, t3⟩, HSI⟩)
      | (go_at_call 34; refine (HSI.out).mono ?_; rintro e w10 ⟨rfl, hb10, ⟨v1, v2, v3⟩⟩)
      | (go_at_call 30; refine (HCN.out _ hb10).mono ?_; rintro e w11 ⟨rfl, rfl⟩)
      | (go_at_call 24; refine (HWK6.out _ hb10).mono ?_; rintro e w12 ⟨rfl, hb12, ⟨x1, x2, x3⟩⟩)))
  all_goals
    go_wp2_with fail
    go_ret
    exact ⟨rfl, hb12⟩

end Go.Proofs.YtmkgdgfbdmjeeaaDoor
