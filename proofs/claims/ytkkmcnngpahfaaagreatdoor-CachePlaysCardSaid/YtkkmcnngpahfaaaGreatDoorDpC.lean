/- The document's pool: New, Load, Store. -/
import Derived.Test.YtkkmcnngpahfaaaGreatDoorDpB
import Derived.Test.YtkkmcnngpahfaaaGreatDoorGnB
import Derived.StillTailTactics
import Derived.RegionTactic
import Derived.Deep.RegionLaw
namespace Go.Proofs.YtkkmcnngpahfaaaGreatDoor
open Go.RowKit Go.Sort
set_option linter.unusedSimpArgs false
set_option linter.unusedVariables false
variable {w : World} {B : Nat} {z : DpW} {p : Pool}

/-- A page of a frame, or nothing. -/
def QLoad (p : Pool) (f : Nat) (w : World) (e : Ending) (w' : World) : Prop :=
  Below w.heap.size w w' ∧ ((takenB p f = true ∧ ∃ g cp, e = .returned (.tuple #[.slice (some ⟨g, 0, none⟩) 4096 cp, .int .i64 0]) ∧ OwnB w' w.heap.size (some ⟨g, 0, none⟩) cp 4096 (p.dat f)) ∨ (takenB p f = false ∧ e = .returned (.tuple #[.slice none 0 0, .int .i64 1])))
set_option maxRecDepth 100000 in
set_option maxHeartbeats 1000000 in
theorem qload_any (f : Nat) (h : DpIs w B z p) (hf : f < p.n) :
    Calls Tryz.prog 57 #[.pointer (some ⟨z.q, 0, none⟩), .int .i64 (f : Int), .int .i64 0, .int .i64 4096] w (QLoad p f w) := by
  have HT := Lib.hid (qtaken_any (f : Int) h)
  have H := Lib.hid h
  cases ht : takenB p (f : Int) with
  | false =>
    rw [ht] at HT
    have HF := Lib.hid ht
    clear h ht
    go_enter Tryz.func57, Tryz.ntmps57
    go_wp2_with (first
      | (go_at_call 111; refine (HT.out).mono ?_; rintro e w1 ⟨rfl, rfl⟩)
      | fail)
    go_ret2
    exact ⟨Below.refl _ _, .inr ⟨HF.out, rfl⟩⟩
  | true =>
    rw [ht] at HT
    have HF := Lib.hid ht
    obtain ⟨w1, hw1⟩ : ∃ w1, w1 = w.alloc (.cells (rowV 4096 fun _ => .int .u8 0) 5) := ⟨_, rfl⟩
    have hmk : (Instr.makeSlice 99 (.int .i64 4096) (.int .i64 4096)).run Tryz.prog w = .ok (.slice (some ⟨w.heap.size, 0, none⟩) 4096 4096) w1 := by rw [hw1]; exact make_bytes 4096 (by omega) w
    have hb1 : Below w.heap.size w w1 := by rw [hw1]; exact (Below.refl _ _).alloc (Nat.le_refl _) _
    have hrow : OwnB w1 w.heap.size (some ⟨w.heap.size, 0, none⟩) 4096 4096 (fun _ => 0) := by rw [hw1]; exact ownB_made w 4096 (by omega) fun _ => 0
    obtain ⟨hl4, hz4⟩ := h.zero f hf
    have HZ := Lib.hid hz4
    have HR := Lib.hid hrow
    have HB1 := Lib.hid hb1
    clear h ht hz4 hrow hb1 hw1
    go_enter Tryz.func57, Tryz.ntmps57
    go_wp2_with (first
      | (go_at_call 111; refine (HT.out).mono ?_; rintro e w1 ⟨rfl, rfl⟩)
      | fail)
    go_loopw [11] (fun i wr => ∃ k : Nat, k ≤ z.l f ∧ i = .int .i64 (k : Int) ∧ OwnB wr w.heap.size (some ⟨w.heap.size, 0, none⟩) 4096 4096 (fun j => if j < k then p.dat f j else 0) ∧ Below w.heap.size w wr) (fun i _ => 4096 - (intOf i).toNat)
    case atStart => exact ⟨0, Nat.zero_le _, rfl, HR.out.congr fun i _ => (if_neg (Nat.not_lt_zero _)).symm, HB1.out⟩
    case round =>
      obtain ⟨k, hk, rfl, hO, hb⟩ := hrel
      have HO := Lib.hid hO
      have HB := Lib.hid hb
      clear hO hb
      obtain ⟨q0, q1⟩ := (H.out.kept HB.out).c
      have hr := row_cell (H.out.kept HB.out).rows hf
      have hn := H.out.few
      by_cases hlt : k < z.l f
      · have hrw := (H.out.kept HB.out).row f hf
        obtain ⟨y, hy, hyc⟩ := hrw.vAny (by omega)
        obtain ⟨g, hg, _⟩ : ∃ g, z.R f = some ⟨g, 0, none⟩ ∧ True := by
          rcases hrw.formA with ⟨e, _⟩ | ⟨g, e, _⟩
          · rw [e] at hy; cases hy
          · exact ⟨g, e, trivial⟩
        rw [hg] at hr hrw
        have hcv := hrw.cell hlt
        have hlc : z.l f ≤ z.cp f := by
          rcases hrw.toG.form with ⟨e, _⟩ | ⟨g', _, _, _, e⟩
          · cases e
          · simpa using e
        have i4 : k < z.cp f := by omega
        have e2 := HO.out.cell (show k < 4096 by omega)
        have e3 : wr.frozen? ⟨w.heap.size, k, none⟩ = false := World.ownsRow.frozenAt HO.out k
        have hp := Lib.hid (HO.out.put (x := p.dat f k) (show k < 4096 by omega))
        have hb2 := Lib.hid (HB.out.setCell (p := ⟨w.heap.size, k, none⟩) (Nat.le_refl _) (.int .u8 (p.dat f k : Int)))
        have i5 : k < 4096 := by omega
        clear hy hyc hrw
        go_wp2_with fail
        go_roundw
        case rel =>
          refine ⟨k + 1, by omega, by go_num, hp.out.congr fun i hi => ?_, hb2.out⟩
          by_cases e : i = k
          · subst e; rw [upd_same, if_pos (Nat.lt_succ_self _)]
          · rw [upd_ne _ _ e]
            by_cases e2 : i < k
            · rw [if_pos e2, if_pos (by omega)]
            · rw [if_neg e2, if_neg (by omega)]
        case measure => (simp [intOf]; omega)
      · obtain rfl : k = z.l f := by omega
        have hO4 : OwnB wr w.heap.size (some ⟨w.heap.size, 0, none⟩) 4096 4096 (p.dat f) := HO.out.congr fun i hi => by
          by_cases e : i < z.l f
          · rw [if_pos e]
          · rw [if_neg e]; exact (HZ.out i (by omega) hi).symm
        have HO4 := Lib.hid hO4
        clear hO4
        have hcase : (4096 : Int) ≤ (z.l f : Int) ∨ (z.l f : Int) < 4096 := by omega
        rcases hcase with hc | hc
        all_goals
          go_wp2_with fail
          go_ret2
          exact ⟨HB.out, .inl ⟨HF.out, _, _, rfl, HO4.out⟩⟩

/-- What an append to a row has done. -/
theorem OwnG.grown {α : Type} {T : TypeId} {k : Nat} {C : α → List Value} {w w3 w4 : World} {R : Option Addr} {base cap : Nat} {l : List α} (hr : OwnG T k C w base R cap l) (hb : Below w.heap.size w w3) (hg4 : w3.grownBy w4 (R.map (·.block))) :
    Mod (fun b => R = some ⟨b, 0, none⟩) w w4 ∧ ∀ g', (R.map (·.block) = some g' ∨ g' = w3.heap.size) → R = some ⟨g', 0, none⟩ ∨ w.heap.size ≤ g' := by
  have hz3 := hb.size
  have hz4 := hg4.size
  have hrb : ∀ k, R.map (·.block) = some k → R = some ⟨k, 0, none⟩ := fun k e => by
    rcases hr.form with ⟨h9, _⟩ | ⟨g, h9, _⟩
    · rw [h9] at e; cases e
    · rw [h9] at e
      simp only [Option.map_some, Option.some.injEq] at e
      rw [h9, e]
  exact ⟨⟨hg4.os.trans hb.os, hg4.tape.trans hb.tape, hg4.output.trans hb.output, by omega, fun b hbl hn => (hg4.block b (by omega) (fun e => hn (hrb b e.symm))).trans (hb.block b hbl)⟩, fun g' h => h.imp (hrb g') fun e => by omega⟩
/-- How long a frame's row is. -/
def rowLen (w : World) (b f : Nat) : Nat := match w.cell? ⟨b, f, none⟩ with
  | some (.slice _ l _) => l
  | _ => 0
theorem BytesV.modS {w w' : World} {A : Option Addr} {n : Nat} {d : Nat → Nat} {S : Nat → Prop} (h : BytesV w A n d) (hm : Mod S w w') (hA : ∀ ad, A = some ad → 0 < n → ¬ S ad.block ∧ ad.block < w.heap.size) : BytesV w' A n d := fun h0 => by
  obtain ⟨ad, e, hc⟩ := h h0
  obtain ⟨h1, h2⟩ := hA ad e h0
  refine ⟨ad, e, fun j hj => ?_⟩
  rw [← hc j hj]
  have e2 : (ad.add j).block = ad.block := by unfold Addr.add; split <;> rfl
  unfold World.cell?
  rw [e2, hm.block _ h2 h1]
theorem laid_nextQ (d0 d : Nat → Nat) (off j : Nat) : upd (laid d0 d off j) (off + j) (d j) = laid d0 d off (j + 1) := by
  funext i
  unfold laid
  by_cases e : i = off + j
  · subst e
    rw [upd_same, if_pos (by omega), Nat.add_sub_cancel_left]
  · rw [upd_ne _ _ e]
    by_cases h : off ≤ i ∧ i < off + j
    · rw [if_pos h, if_pos (by omega)]
    · rw [if_neg h, if_neg (by omega)]
theorem laid_zeroQ (d0 d : Nat → Nat) (off : Nat) : laid d0 d off 0 = d0 := by
  funext i
  unfold laid
  rw [if_neg (by omega)]
set_option maxRecDepth 100000 in
set_option maxHeartbeats 4000000 in
theorem qstore_any (f off n c : Nat) (A : Option Addr) (d : Nat → Nat) (h : DpIs w B z p) (hf : f < p.n) (h1 : 1 ≤ p.cnt f) (ho : off ≤ 4096) (hn : n ≤ 4096 - off) (hA : BytesV w A n d) (hAo : ∀ ad, A = some ad → 0 < n → ¬ dpB z p.n ad.block ∧ ad.block < w.heap.size) (hAf : ∀ ad, A = some ad → ∃ g, ad = ⟨g, 0, none⟩) (hB : B ≤ w.heap.size) :
    Calls Tryz.prog 110 #[.pointer (some ⟨z.q, 0, none⟩), .int .i64 (f : Int), .int .i64 (off : Int), .slice A n c] w fun e w' => ∃ z', e = .returned (.int .i64 0) ∧ DpNext w B z p.n w' z' (p.store f (laid (p.dat f) d off n)) := by
  have HT := Lib.hid (qtaken_any (f : Int) h)
  have ht : takenB p (f : Int) = true := by rw [takenB_nat]; exact decide_eq_true ⟨hf, h1⟩
  rw [ht] at HT
  have H := Lib.hid h
  have HA := Lib.hid hA
  have HAO := Lib.hid hAo
  have HAF := Lib.hid hAf
  have hfew := h.few
  clear h ht hA hAo hAf
  go_enter Tryz.func110, Tryz.ntmps110
  go_wp2_with (first
    | (go_at_call 111; refine (HT.out).mono ?_; rintro e w1 ⟨rfl, rfl⟩)
    | fail)
  go_loopw [] (fun wr => ∃ z', DpNext w B z p.n wr z' p ∧ z'.kb = z.kb) (fun wr => off + n - rowLen wr z.kb f)
  case atStart => exact ⟨z, DpNext.refl H.out, rfl⟩
  case round =>
    obtain ⟨z', hn, hkb⟩ := hrel
    obtain ⟨c0, c1⟩ := hn.is.c
    have hr := row_cell hn.is.rows hf
    rw [hn.q, hkb] at c1
    rw [hkb] at hr
    have HN := Lib.hid hn
    have HKB := Lib.hid hkb
    obtain ⟨hl4, hz4⟩ := hn.is.zero f hf
    have hz0 := hn.mod.size
    clear hn hkb c0
    by_cases hlt : z'.l f < off + n
    · have HZ : Hid (p.dat f (z'.l f) = 0) := Lib.hid (hz4 _ (Nat.le_refl _) (by omega))
      have hrow := HN.out.is.row f hf
      have HOG : Hid (OwnG 5 1 byC wr.drew B (z'.R f) (z'.cp f) ((List.range (z'.l f)).map (p.dat f))) := Lib.hid (hrow.toG.kept (Below.refl _ _).drew)
      have hb1 : Below wr.heap.size wr (wr.drew.alloc (.cells #[.int .u8 0] 5)) := ((Below.refl wr.heap.size wr).drew).alloc (Nat.le_refl _) _
      have HB1 := Lib.hid hb1
      have hkl : z.kb < wr.heap.size := by rw [← HKB.out]; exact (HN.out.is.lt _ (.inr (.inr (.inl rfl)))).2
      have hql : z.q < wr.heap.size := by rw [← HN.out.q]; exact (HN.out.is.lt _ (.inl rfl)).2
      have hfz : wr.frozen? ⟨z.kb, f, none⟩ = false := by rw [← HKB.out]; exact one_free HN.out.is.rows f
      have hne : (z'.R f).map (·.block) ≠ some z.kb := fun e => by
        rcases hrow.formA with ⟨e1, _⟩ | ⟨g, e1, _⟩
        · rw [e1] at e; cases e
        · rw [e1] at e
          simp only [Option.map_some, Option.some.injEq] at e
          exact (HN.out.is.apart.2.2.2 f g hf e1).2.2 (by rw [HKB.out]; exact e)
      have HNE := Lib.hid hne
      have hnq : (z'.R f).map (·.block) ≠ some z.q := fun e => by
        rcases hrow.formA with ⟨e1, _⟩ | ⟨g, e1, _⟩
        · rw [e1] at e; cases e
        · rw [e1] at e
          simp only [Option.map_some, Option.some.injEq] at e
          exact (HN.out.is.apart.2.2.2 f g hf e1).1 (by rw [HN.out.q]; exact e)
      have HNQ := Lib.hid hnq
      have hll : z'.l f < 1000000 := by omega
      have hrl : rowLen wr z.kb f = z'.l f := by unfold rowLen; rw [hr]
      have HRL := Lib.hid hrl
      have e1 : (wr.drew.alloc (.cells #[.int .u8 0] 5)).cell? ⟨z.q, 1, none⟩ = some (.slice (some ⟨z.kb, 0, none⟩) p.n p.n) := (hb1.cell hql).trans c1
      have e2 : (wr.drew.alloc (.cells #[.int .u8 0] 5)).cell? ⟨z.kb, f, none⟩ = some (.slice (z'.R f) (z'.l f) (z'.cp f)) := (hb1.cell hkl).trans hr
      clear hrow hb1 hne hnq hrl hz4
      have hsz : (wr.alloc (.cells #[.int .u8 0] 5)).drew.heap.size = wr.heap.size + 1 := by show (wr.alloc _).heap.size = _; simp
      have HSZ := Lib.hid hsz
      clear hsz
      go_upto_region 6 with fail
      refine wp_region_Z (fun w' => w'.cell? ⟨z.q, 1, none⟩ = some (.slice (some ⟨z.kb, 0, none⟩) p.n p.n) ∧ w'.cell? ⟨z.kb, f, none⟩ = some (.slice (z'.R f) (z'.l f) (z'.cp f))) 15 (by kernel_rfl) (LastIs.of 14 (by kernel_rfl) (by kernel_rfl)) ⟨c1, hr⟩ ?_
      intro HLZ HSW
      refine zt 0 ?_
      refine zt 1 ?_
      refine zt 2 ?_
      refine zt 3 ?_
      refine zt 4 ?_
      refine zt 5 ?_
      refine zt 6 ?_
      refine zt 7 ?_
      refine zt 8 ?_
      refine zt 9 ?_
      refine zt 10 ?_
      refine zt 11 ?_
      refine wpAnyZ_step 12 (by kernel_rfl) rfl (fun K' hK => ?_)
      go_simp
      refine hK.out _ _ ⟨e1, e2⟩ (fun HSW => ?_)
      clear hK K'
      try simp only [Act.put, List.setIfInBounds_toArray, List.set_cons_zero, List.set_cons_succ, List.getElem_toArray, List.getElem_cons_succ, List.getElem_cons_zero]
      refine wpAnyZ_step 13 (by kernel_rfl) rfl (fun K' hK => ?_)
      refine step_gen by_elem (by rfl) (.tmp 55) (.tmp 56) (by rfl) B (z'.R f) (z'.cp f) (z'.l f) ((List.range (z'.l f)).map (p.dat f)) (by simp) (by rfl) (HOG.out.alloc _) 0 wr.heap.size 1 (by rfl) (heap_alloc_new wr.drew _) hll (by rw [HSZ.out]; omega) ?_
      intro g6 cap6 w6 ho6 hg6 hat6 hlt6
      have p0 := (hg6.cell_far ⟨z.q, 1, none⟩ (by show z.q < _; rw [HSZ.out]; omega) HNQ.out.symm).trans e1
      have p1 := (hg6.cell_far ⟨z.kb, f, none⟩ (by show z.kb < _; rw [HSZ.out]; omega) HNE.out.symm).trans e2
      have p2 := (hg6.frozen_far ⟨z.kb, f, none⟩ (by show z.kb < _; rw [HSZ.out]; omega) HNE.out.symm).trans ((HB1.out.frozen (p := ⟨z.kb, f, none⟩) hkl).trans hfz)
      refine hK.out _ _ ⟨p0, p1⟩ (fun HSW => ?_)
      clear hK K'
      try simp only [Act.put, List.setIfInBounds_toArray, List.set_cons_zero, List.set_cons_succ, List.getElem_toArray, List.getElem_cons_succ, List.getElem_cons_zero]
      refine zt 14 ?_
      refine wpAnyZ_last 15 (by kernel_rfl) rfl rfl (fun K' hK => ?_)
      go_simp
      refine hK.out _ _ ?_
      clear hK K'
      refine wpAnyZ_done (by kernel_rfl) ?_ _
      obtain ⟨hgm, hgn⟩ := HOG.out.grown (w3 := (wr.alloc (.cells #[.int .u8 0] 5)).drew) (((Below.refl wr.drew.heap.size wr.drew).alloc (Nat.le_refl _) (.cells #[.int .u8 0] 5))) hg6
      have ho : OwnB w6 B (some ⟨g6, 0, none⟩) cap6 (z'.l f + 1) (p.dat f) := .ofG (by rw [List.range_succ, List.map_append, List.map_singleton, HZ.out]; exact ho6)
      have hset := HN.out.is.setRow (c := cap6) (A := some ⟨g6, 0, none⟩) hgm.undrew hf ho ⟨by omega, fun j h1 h2 => (HN.out.is.zero f hf).2 j (by omega) h2⟩ ((hgn g6 hat6).imp (fun e => e.symm) (fun h => fun g e => by injection e with e; injection e with e; subst e; exact h))
      rw [upd_self, HKB.out] at hset
      have hc6 := row_cell hset.is.rows hf
      simp only [upd_same] at hc6
      try rw [HKB.out] at hc6
      have HRL2 : Hid (rowLen (w6.setCell ⟨z.kb, f, none⟩ (.slice (some ⟨g6, 0, none⟩) (z'.l f + 1) cap6)) z.kb f = z'.l f + 1) := Lib.hid (by unfold rowLen; rw [hc6])
      have HSET := Lib.hid (HN.out.trans hset)
      clear hset hc6 ho hgm hgn ho6 hg6 hat6 hlt6 p0 p1 p2
      go_wp2_with fail
      go_roundw
      case rel => exact ⟨_, HSET.out, rfl⟩
      case measure => rw [HRL.out, HRL2.out]; omega
    · clear hz4
      obtain ⟨wl, hwl⟩ : ∃ wl, wl = wr := ⟨_, rfl⟩
      subst hwl
      go_wp2_with fail
      go_loopw [9] (fun i wr => ∃ (k : Nat) (z2 : DpW), k ≤ n ∧ i = .int .i64 (k : Int) ∧ DpNext w B z p.n wr z2 (p.store f (laid (p.dat f) d off k)) ∧ z2.kb = z.kb ∧ off + n ≤ z2.l f) (fun i _ => n - (intOf i).toNat)
      case atStart => exact ⟨0, z', Nat.zero_le _, rfl, by rw [laid_zeroQ]; show DpNext w B z p.n _ z' ⟨p.n, p.cnt, upd p.dat f (p.dat f)⟩; rw [upd_self]; exact HN.out, HKB.out, by omega⟩
      case round =>
        clear hlt hr c1 hl4 hz0 HKB HN
        obtain ⟨k, z2, hk, rfl, hn2, hkb2, hl2⟩ := hrel
        obtain ⟨c0, c1⟩ := hn2.is.c
        have hr := row_cell hn2.is.rows hf
        rw [hn2.q, hkb2] at c1
        rw [hkb2] at hr
        change wr.cell? ⟨z.q, 1, none⟩ = some (.slice (some ⟨z.kb, 0, none⟩) p.n p.n) at c1
        have hl4 := (hn2.is.zero f hf).1
        have hrow := hn2.is.row f hf
        have hz2 := hn2.mod.size
        have HN2 := Lib.hid hn2
        have HKB2 := Lib.hid hkb2
        clear hn2 hkb2 c0
        by_cases hlt : k < n
        · obtain ⟨g, hg⟩ : ∃ g, z2.R f = some ⟨g, 0, none⟩ := by
            rcases hrow.formA with ⟨_, e⟩ | ⟨g, e, _⟩
            · omega
            · exact ⟨g, e⟩
          rw [hg] at hr hrow
          obtain ⟨ad, rfl, hx⟩ := (HA.out.modS HN2.out.mod HAO.out) (by omega)
          obtain ⟨ga, rfl⟩ := HAF.out _ rfl
          have e1 : wr.cell? ⟨ga, k, none⟩ = some (.int .u8 (d k : Int)) := by
            have := hx k hlt
            rwa [Addr.add_mid, Nat.zero_add] at this
          have e2 := hrow.cell (show off + k < z2.l f by omega)
          have e3 : wr.frozen? ⟨g, off + k, none⟩ = false := World.ownsRow.frozenAt hrow (off + k)
          have hcp : z2.l f ≤ z2.cp f := by
            rcases hrow.toG.form with ⟨e, _⟩ | ⟨g', _, _, _, e⟩
            · cases e
            · simpa using e
          have i1 : off + k < z2.cp f := by omega
          have i2 : off + k < z2.l f := by omega
          have hpk := (HN2.out.is.kept ((Below.refl wr.heap.size wr).drew)).poke (x := d k) hf hg i2
          have hpe : (⟨(p.store f (laid (p.dat f) d off k)).n, (p.store f (laid (p.dat f) d off k)).cnt, upd (p.store f (laid (p.dat f) d off k)).dat f (upd ((p.store f (laid (p.dat f) d off k)).dat f) (off + k) (d k))⟩ : Pool) = p.store f (laid (p.dat f) d off (k + 1)) := by
            show (⟨p.n, p.cnt, upd (upd p.dat f (laid (p.dat f) d off k)) f (upd (upd p.dat f (laid (p.dat f) d off k) f) (off + k) (d k))⟩ : Pool) = ⟨p.n, p.cnt, upd p.dat f (laid (p.dat f) d off (k + 1))⟩
            rw [upd_same, upd_twice, laid_nextQ]
          rw [hpe] at hpk
          obtain ⟨t, ht⟩ : ∃ t : Nat, t = off + k := ⟨_, rfl⟩
          have hs : (off : Int) + (k : Int) = (t : Int) := by omega
          rw [← ht] at hpk e2 e3 i1 i2
          have hw : IntKind.i64.wrap (t : Int) = (t : Int) := by rw [IntKind.wrap_i64]; omega
          clear ht
          have HPK := Lib.hid ((HN2.out.trans (show DpNext wr B z2 p.n wr.drew z2 (p.store f (laid (p.dat f) d off k)) from DpNext.kept HN2.out.is ((Below.refl wr.heap.size wr).drew))).trans hpk)
          clear hrow hx hpk hpe
          go_upto_region 10 with fail
          go_still_tail 15, (by kernel_rfl)
          go_wp2_with fail
          go_roundw
          case rel => exact ⟨k + 1, z2, by omega, by go_num, HPK.out, HKB2.out, hl2⟩
          case measure => (simp [intOf]; omega)
        · obtain rfl : k = n := by omega
          go_wp2_with fail
          go_ret
          exact ⟨_, rfl, HN2.out⟩
theorem make_rows (n : Nat) (hn : n ≤ 1024) (W : World) : (Instr.makeSlice 168 (.int .i64 (n : Int)) (.int .i64 (n : Int))).run Tryz.prog W = .ok (.slice (some ⟨W.heap.size, 0, none⟩) n n) (W.alloc (.cells (rowV n fun _ => .slice none 0 0) 99)) := by
  have hinfo : (Tryz.prog.info? 99).map (fun i => (i.zero, i.size, i.bytes)) = some (some (.slice none 0 0), 1, 24) := by kernel_rfl
  obtain ⟨i0, hi0, hz0, hs, hb⟩ := info_parts hinfo
  have h := run_make (P := Tryz.prog) W 168 99 i0 (.slice none 0 0) Tryz.underlying168 hi0 hz0 .i64 .i64 (n : Int) (n : Int) (by omega) (by omega) (by rw [hb]; omega) (by omega)
  rw [h, hs, show (Value.slice none 0 0).cells = #[.slice none 0 0] from rfl]
  simp [made_rowV]
theorem h3a {w : World} {o0 o1 o2 : Obj} : (((w.alloc o0).alloc o1).alloc o2).drew.heap[w.heap.size]? = some o0 :=
  (Below.heap_alloc _ _ _ (by simp; try omega)).trans ((Below.heap_alloc _ _ _ (by simp; try omega)).trans (heap_alloc_new w o0))
theorem h3b {w : World} {o0 o1 o2 : Obj} : (((w.alloc o0).alloc o1).alloc o2).drew.heap[w.heap.size + 1]? = some o1 := by
  have e : (w.alloc o0).heap.size = w.heap.size + 1 := by simp
  rw [← e]
  exact (Below.heap_alloc _ _ _ (by simp)).trans (heap_alloc_new _ _)
theorem h3c {w : World} {o0 o1 o2 : Obj} : (((w.alloc o0).alloc o1).alloc o2).drew.heap[w.heap.size + 1 + 1]? = some o2 := by
  have e : ((w.alloc o0).alloc o1).heap.size = w.heap.size + 1 + 1 := by simp
  rw [← e]
  exact heap_alloc_new _ _
theorem h3d {w : World} {o0 o1 o2 : Obj} : Below w.heap.size w (((w.alloc o0).alloc o1).alloc o2).drew := ((((Below.refl _ _).alloc (Nat.le_refl _) _).alloc (by simp) _).alloc (by simp; try omega) _).drew
/-- A pool of free frames. -/
def dp0 (n : Nat) : Pool := ⟨n, fun _ => 0, fun _ _ => 0⟩
theorem dp_made {wx : World} {kc kb q n B : Nat} (hs : wx.heap[q]? = some (.cells #[.slice (some ⟨kc, 0, none⟩) n n, .slice (some ⟨kb, 0, none⟩) n n] 170 (0, 0))) (hc : wx.heap[kc]? = some (.cells (rowV n fun _ => .int .i64 0) 3 (0, 0)))
    (hr : wx.heap[kb]? = some (.cells (rowV n fun _ => .slice none 0 0) 99 (0, 0))) (hl : B ≤ q ∧ B ≤ kc ∧ B ≤ kb) (h2 : n ≤ 1024) : DpIs wx B ⟨q, kc, kb, fun _ => none, fun _ => 0, fun _ => 0⟩ (dp0 n) :=
  ⟨hs, hc, hr, hl, fun i _ => ownB_nil _ _ _, fun i _ => ⟨Nat.zero_le _, fun _ _ _ => rfl⟩, fun i j _ _ _ h => absurd rfl h, h2⟩
set_option maxRecDepth 100000 in
set_option maxHeartbeats 1000000 in
theorem qnew_any (n : Nat) (w : World) (h1 : 1 ≤ n) (h2 : n ≤ 1024) :
    Calls Tryz.prog 29 #[.int .i64 (n : Int)] w fun e w' => ∃ z, e = .returned (.tuple #[.pointer (some ⟨z.q, 0, none⟩), .int .i64 0]) ∧ DpIs w' w.heap.size z (dp0 n) ∧ Below w.heap.size w w' := by
  have m1 := make_row 55 3 (.int .i64 0) rfl Tryz.underlying55 int_info (n : Int) n rfl (by omega)
  have m2 := make_rows n h2
  go_enter Tryz.func29, Tryz.ntmps29
  go_upto_region 3 with (fail)
  go_region
  all_goals
    go_wp2_with fail
    go_ret2
    first
      | exact ⟨⟨w.heap.size + 1 + 1, w.heap.size, w.heap.size + 1, _, _, _⟩, rfl, dp_made h3c h3a h3b ⟨by omega, by omega, by omega⟩ h2, h3d⟩
      | exact ⟨⟨w.heap.size + 1 + 1, w.heap.size + 1, w.heap.size, _, _, _⟩, rfl, dp_made h3c h3b h3a ⟨by omega, by omega, by omega⟩ h2, h3d⟩
theorem qnew_bad (n : Int) (w : World) (h : n < 1 ∨ 1024 < n) :
    Calls Tryz.prog 29 #[.int .i64 n] w fun e w' => e = .returned (.tuple #[.pointer none, .int .i64 1]) ∧ Below w.heap.size w w' := by
  by_cases h1 : n < 1
  · go_enter Tryz.func29, Tryz.ntmps29
    go_wp2_with fail
    go_ret2
    exact ⟨rfl, Below.refl _ _⟩
  · have h2 : 1024 < n := by omega
    go_enter Tryz.func29, Tryz.ntmps29
    go_wp2_with fail
    go_ret2
    exact ⟨rfl, Below.refl _ _⟩

end Go.Proofs.YtkkmcnngpahfaaaGreatDoor
