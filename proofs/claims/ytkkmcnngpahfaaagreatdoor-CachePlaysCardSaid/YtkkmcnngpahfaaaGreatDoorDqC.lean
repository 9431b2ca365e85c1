/- The document's cache: Loose, Find, without, Take. -/
import Derived.Test.YtkkmcnngpahfaaaGreatDoorDqB
import Derived.Deep.QuietTactic
import Derived.BigQuiet
import Derived.Lib.QuietBelow
import Derived.StillTailTactics
namespace Go.Proofs.YtkkmcnngpahfaaaGreatDoor
open Go.RowKit Go.Sort
set_option linter.unusedSimpArgs false
set_option linter.unusedVariables false
variable {w : World} {B g : Nat} {y : DcW} {p : Pool} {D : List Slot}

/-- The place of the first that is so. -/
def firstI (D : List Slot) (q : Slot → Bool) : Int := match D.findIdx? q with
  | some i => (i : Int)
  | none => -1
theorem firstI_at {q : Slot → Bool} {i : Nat} {s : Slot} (hs : D[i]? = some s) (hq : q s = true) (hb : ∀ (j : Nat) (t : Slot), j < i → D[j]? = some t → q t = false) : firstI D q = (i : Int) := by
  unfold firstI; rw [findIdx_at hs hq hb]
theorem firstI_none {q : Slot → Bool} (hb : ∀ (j : Nat) (t : Slot), D[j]? = some t → q t = false) : firstI D q = -1 := by
  have h : D.findIdx? q = none := by
    rw [List.findIdx?_eq_none_iff]
    intro s hs
    obtain ⟨j, hj, e⟩ := List.mem_iff_getElem.1 hs
    exact hb j s (by rw [List.getElem?_eq_getElem hj, e])
  unfold firstI; rw [h]
set_option maxHeartbeats 1000000 in
theorem dloose_any (h : DcIs w B g y p D) (hlow : ∀ s ∈ D, s.frame < p.n) (hfew : D.length ≤ 100000) :
    Calls Tryz.prog 106 #[.pointer (some ⟨y.d, 0, none⟩)] w fun e w' => e = .returned (.int .i64 (firstI D fun s => p.cnt s.frame == 1)) ∧ Below w.heap.size w w' := by
  have H := Lib.hid h
  have HL := Lib.hid hlow
  clear h hlow
  go_enter Tryz.func106, Tryz.ntmps106
  go_wp2_with fail
  go_loopw [3] (fun i wr => ∃ k : Nat, k ≤ D.length ∧ i = .int .i64 (k : Int) ∧ (∀ j t, j < k → D[j]? = some t → (p.cnt t.frame == 1) = false) ∧ Below w.heap.size w wr) (fun i _ => D.length - (intOf i).toNat)
  case atStart => exact ⟨0, Nat.zero_le _, rfl, fun j t hj => absurd hj (Nat.not_lt_zero _), Below.refl _ _⟩
  case round =>
    obtain ⟨k, hk, rfl, hno, hbe⟩ := hrel
    have HNO := Lib.hid hno
    have HBE := Lib.hid hbe
    have HR := Lib.hid (H.out.kept hbe)
    obtain ⟨c0, c1, c2⟩ := HR.out.c
    clear hno hbe
    by_cases hlt : k < D.length
    · obtain ⟨s, hs⟩ : ∃ s, D[k]? = some s := ⟨_, List.getElem?_eq_getElem hlt⟩
      obtain ⟨b, hA, hb, i1, i2, s0, s1, s2⟩ := HR.out.row.slotAt hs
      rw [hA] at c2
      have hfr := HL.out s (List.mem_of_getElem? hs)
      have HS := Lib.hid hs
      have i3 : k < y.cap := by omega
      have d0 : ∀ d os, (grow (redrawn wr d) os).cell? ⟨y.d, 0, none⟩ = some (.pointer (some ⟨y.z.q, 0, none⟩)) := fun d os => cell_regrown c0 d os
      have d1 : ∀ d os, (grow (redrawn wr d) os).cell? ⟨y.d, 2, none⟩ = some (.slice (some ⟨b, 0, none⟩) D.length y.cap) := fun d os => cell_regrown c2 d os
      have d2 : ∀ d os, (grow (redrawn wr d) os).cell? ⟨b, k * 3 + 2, none⟩ = some (.int .i64 (s.frame : Int)) := fun d os => cell_regrown s2 d os
      have hG := fun d os => Calls.regrown_of ((qcount_any s.frame (HR.out.kept (below_regrown wr d os)).pool hfr).mono fun _ _ ⟨h1, h2⟩ => ⟨h1, h2 ▸ Below.refl _ _⟩)
      have HG := Lib.hid hG
      clear hs hA hG
      go_upto_region 4 with (fail)
      refine wp_region_quiet_below (by kernel_rfl) (by kernel_rfl) ?_; (repeat (go_big_quiet_step ((exact HG.out _ _)))); refine wpQuiet_nil ?_; intro _ hw'; obtain ⟨⟨dq, osq⟩, hw''⟩ := hw'; subst hw''; have hbq := below_regrown (wr) dq osq; generalize grow (redrawn (wr) dq) osq = wq at hbq ⊢
      clear d0 d1 d2 c0 c1 c2 s0 s1 s2
      cases hq : (p.cnt s.frame == 1) with
      | true =>
        have HQ := Lib.hid hq
        have hq2 : ((p.cnt s.frame : Int) == 1) = true := by rw [beq_iff_eq] at hq ⊢; omega
        clear hq
        go_wp2_with fail
        go_ret
        exact ⟨ret_int (firstI_at HS.out HQ.out HNO.out).symm, HBE.out.trans (hbq.mono HBE.out.size)⟩
      | false =>
        have HQ := Lib.hid hq
        have hq2 : ((p.cnt s.frame : Int) == 1) = false := by rw [beq_eq_false_iff_ne] at hq ⊢; omega
        clear hq
        go_wp2_with fail
        go_roundw
        case rel => exact ⟨k + 1, by omega, by go_num, fun j t hj ht => by (by_cases e : j = k; (subst e; have h9 := HS.out; rw [ht] at h9; injection h9 with h9; subst h9; exact HQ.out); exact HNO.out j t (by omega) ht), HBE.out.trans (hbq.mono HBE.out.size)⟩
        case measure => (simp [intOf]; omega)
    · obtain rfl : k = D.length := by omega
      go_wp2_with fail
      go_ret
      exact ⟨ret_int (firstI_none fun j t ht => HNO.out j t (List.getElem?_eq_some_iff.1 ht).1 ht).symm, HBE.out⟩
set_option maxHeartbeats 1000000 in
theorem dfind_any (ino page : Int) (h : DcIs w B g y p D) (hfew : D.length ≤ 100000) :
    Calls Tryz.prog 109 #[.pointer (some ⟨y.d, 0, none⟩), .int .i64 ino, .int .i64 page] w fun e w' => e = .returned (.int .i64 (firstI D (Slot.at ino page))) ∧ w = w' := by
  obtain ⟨c0, c1, c2⟩ := h.c
  have H := Lib.hid h
  clear h
  go_enter Tryz.func109, Tryz.ntmps109
  go_wp2_with fail
  go_loopw [7] (fun i wr => ∃ k : Nat, k ≤ D.length ∧ i = .int .i64 (k : Int) ∧ (∀ j t, j < k → D[j]? = some t → Slot.at ino page t = false) ∧ wr = w) (fun i _ => D.length - (intOf i).toNat)
  case atStart => exact ⟨0, Nat.zero_le _, rfl, fun j t hj => absurd hj (Nat.not_lt_zero _), rfl⟩
  case round =>
    obtain ⟨k, hk, rfl, hno, rfl⟩ := hrel
    have HNO := Lib.hid hno
    clear hno
    by_cases hlt : k < D.length
    · obtain ⟨s, hs⟩ : ∃ s, D[k]? = some s := ⟨_, List.getElem?_eq_getElem hlt⟩
      obtain ⟨b, hA, hb, i1, i2, s0, s1, s2⟩ := H.out.row.slotAt hs
      rw [hA] at c2
      have HS := Lib.hid hs
      have i3 : k < y.cap := by omega
      clear hs hA
      by_cases hq : s.ino = ino ∧ s.page = page
      · have HQ := Lib.hid (Slot.at_iff.2 hq)
        have q1 : (s.ino == ino) = true := by rw [beq_iff_eq]; exact hq.1
        have q2 : (s.page == page) = true := by rw [beq_iff_eq]; exact hq.2
        clear hq
        go_wp2_with fail
        go_ret
        exact ⟨ret_int (firstI_at HS.out HQ.out HNO.out).symm, rfl⟩
      · have hqf : Slot.at ino page s = false := by cases e : Slot.at ino page s with | false => rfl | true => exact absurd (Slot.at_iff.1 e) hq
        have HQ := Lib.hid hqf
        have hq3 : (s.ino == ino) = false ∨ ((s.ino == ino) = true ∧ (s.page == page) = false) := by
          by_cases e : s.ino = ino
          · exact .inr ⟨by rw [beq_iff_eq]; exact e, by rw [beq_eq_false_iff_ne]; exact fun e2 => hq ⟨e, e2⟩⟩
          · exact .inl (by rw [beq_eq_false_iff_ne]; exact e)
        clear hq hqf
        rcases hq3 with q1 | ⟨q1, q2⟩
        all_goals
          go_wp2_with fail
          go_roundw
          case rel => exact ⟨k + 1, by omega, by go_num, fun j t hj ht => by (by_cases e : j = k; (subst e; have h9 := HS.out; rw [ht] at h9; injection h9 with h9; subst h9; exact HQ.out); exact HNO.out j t (by omega) ht), by trivial⟩
          case measure => (simp [intOf]; omega)
    · obtain rfl : k = D.length := by omega
      go_wp2_with fail
      go_ret
      exact ⟨ret_int (firstI_none fun j t ht => HNO.out j t (List.getElem?_eq_some_iff.1 ht).1 ht).symm, rfl⟩
theorem erase_take {D : List Slot} {i k : Nat} (h : k < D.length) (s : Slot) (hs : D[k]? = some s) : (if k = i then (D.take k).eraseIdx i else (D.take k).eraseIdx i ++ [s]) = (D.take (k + 1)).eraseIdx i := by
  have e : D.take (k + 1) = D.take k ++ [s] := by rw [List.take_add_one, hs]; rfl
  have hl : (D.take k).length = k := by rw [List.length_take]; omega
  rw [e]
  by_cases h1 : k = i
  · subst h1
    rw [if_pos rfl, List.eraseIdx_append_of_length_le (by omega), hl, List.eraseIdx_of_length_le (by omega)]
    simp
  · rw [if_neg h1]
    by_cases h2 : i < k
    · rw [List.eraseIdx_append_of_lt_length (by omega)]
    · rw [List.eraseIdx_append_of_length_le (by omega), List.eraseIdx_of_length_le (by omega), hl, List.eraseIdx_of_length_le (by simp; omega)]
set_option maxHeartbeats 2000000 in
theorem dwithout_any (A : Option Addr) (base cap i : Nat) (w : World) (ho : OwnG 118 3 slD w base A cap D) (hfew : D.length ≤ 100000) (hi : i ≤ 100000) :
    Calls Tryz.prog 107 #[.slice A D.length cap, .int .i64 (i : Int)] w fun e w' => ∃ R c, e = .returned (.slice R (D.eraseIdx i).length c) ∧ OwnG 118 3 slD w' w.heap.size R c (D.eraseIdx i) ∧ Below w.heap.size w w' := by
  have HO := Lib.hid ho
  clear ho
  go_enter Tryz.func107, Tryz.ntmps107
  go_wp2_with fail
  go_loopw [5, 6] (fun v x wr => ∃ (k : Nat) (R : Option Addr) (c : Nat), k ≤ D.length ∧ x = .int .i64 (k : Int) ∧ v = .slice R ((D.take k).eraseIdx i).length c ∧ OwnG 118 3 slD wr w.heap.size R c ((D.take k).eraseIdx i) ∧ Below w.heap.size w wr) (fun _ x _ => D.length - (intOf x).toNat)
  case atStart => exact ⟨0, none, 0, Nat.zero_le _, rfl, by simp, by simpa using OwnG.nil _ _, Below.refl _ _⟩
  case round =>
    obtain ⟨k, R, c, hk, rfl, rfl, hR, hb⟩ := hrel
    have HR := Lib.hid hR
    have HB := Lib.hid hb
    clear hR hb
    by_cases hlt : k < D.length
    · obtain ⟨s, hs⟩ : ∃ s, D[k]? = some s := ⟨_, List.getElem?_eq_getElem hlt⟩
      obtain ⟨b, rfl, hbl, i1, i2, s0, s1, s2⟩ := (HO.out.kept HB.out).slotAt hs
      have i3 : k < cap := by omega
      have HE := Lib.hid (erase_take (i := i) hlt s hs)
      clear hs
      by_cases he : k = i
      · have hq : ((k : Int) == (i : Int)) = true := by rw [beq_iff_eq]; omega
        have HE2 : Hid ((D.take k).eraseIdx i = (D.take (k + 1)).eraseIdx i) := Lib.hid (by have h9 := HE.out; rw [if_pos he] at h9; exact h9)
        clear he
        go_wp2_with fail
        go_roundw
        case rel => exact ⟨k + 1, R, c, by omega, by go_num, by rw [← HE2.out], by rw [← HE2.out]; exact HR.out, HB.out⟩
        case measure => (simp [intOf]; omega)
      · have hq : ((k : Int) == (i : Int)) = false := by rw [beq_eq_false_iff_ne]; omega
        have HE2 : Hid ((D.take k).eraseIdx i ++ [s] = (D.take (k + 1)).eraseIdx i) := Lib.hid (by have h9 := HE.out; rw [if_neg he] at h9; exact h9)
        obtain ⟨M, hM⟩ : ∃ M, M = (D.take k).eraseIdx i := ⟨_, rfl⟩
        rw [← hM] at HR HE2
        have HML : Hid (M.length ≤ 100000) := Lib.hid (by rw [hM]; exact Nat.le_trans (List.eraseIdx_sublist _ _).length_le (by rw [List.length_take]; omega))
        clear he HE
        rw [← hM]
        clear hM
        go_wp2_with (first
          | (at_builtin; refine app_gen sd_elem rfl (.tmp 16) (.tmp 21) rfl w.heap.size R c M.length M rfl rfl (HR.out.alloc _) s wr.heap.size 1 rfl (heap_alloc_new _ _) (by have := HML.out; omega) (by have := HB.out.size; simp; omega) ?_; intro g4 cap4 w4 ho4 hg4 hat4 hlt4; have HO4 := Lib.hid ho4; have HB4 := Lib.hid ((HB.out.alloc HB.out.size (.cells (slD s).toArray 118)).grown hg4 (by have := HB.out.size; simp; omega) (fun b hb => by rcases HR.out.form with ⟨e, _⟩ | ⟨g1, e, h1, _⟩ <;> rw [e] at hb <;> simp at hb <;> omega)); clear ho4 hg4 hat4)
          | fail)
        go_roundw
        case rel => exact ⟨k + 1, some ⟨g4, 0, none⟩, cap4, by omega, by go_num, by rw [← HE2.out, List.length_append]; rfl, by rw [← HE2.out]; exact HO4.out, HB4.out⟩
        case measure => (simp [intOf]; omega)
    · obtain rfl : k = D.length := by omega
      have hT : D.take D.length = D := List.take_length
      rw [hT] at HR
      rw [hT]
      have HR' := Lib.hid HR.out
      clear hT HR
      go_wp2_with fail
      go_ret
      exact ⟨R, c, rfl, HR'.out, HB.out⟩
/-- The document's Take. -/
def DTakeP (w : World) (B g : Nat) (y : DcW) (p : Pool) (D : List Slot) (e : Ending) (w' : World) : Prop := ∃ y', e = .returned (.tuple #[.int .i64 ((dtake p D).2.1 : Nat), .int .i64 (dtake p D).1]) ∧ DcNext w B g y p.n w' y' (dtake p D).2.2.1 (dtake p D).2.2.2
theorem DTakeP.mk {w' : World} {r : Int} {f : Nat} {p' : Pool} {D' : List Slot} {y' : DcW} (hd : dtake p D = (r, f, p', D')) (hn : DcNext w B g y p.n w' y' p' D') : DTakeP w B g y p D (.returned (.tuple #[.int .i64 (f : Nat), .int .i64 r])) w' := ⟨y', by rw [hd], by rw [hd]; exact hn⟩
set_option maxRecDepth 100000 in
set_option maxHeartbeats 2000000 in
theorem dtake_any (h : DcIs w B g y p D) (hlow : ∀ s ∈ D, s.frame < p.n) (hfew : D.length ≤ 100000) (hcap : ∀ f, p.cnt f < 1000000000000) (hB : B ≤ w.heap.size) :
    Calls Tryz.prog 44 #[.pointer (some ⟨y.d, 0, none⟩)] w (DTakeP w B g y p D) := by
  obtain ⟨c0, c1, c2⟩ := h.c
  have H := Lib.hid h
  have HL := Lib.hid hlow
  have HT := Lib.hid (qtake_any h.pool)
  cases hl : p.lowest with
  | some f =>
    have ht : takeR p = (0, f, p.takeAt f) := by unfold takeR; rw [hl]
    have hd : dtake p D = (0, f, p.takeAt f, D) := dtake_free hl
    rw [ht] at HT
    have HD := Lib.hid hd
    clear h hlow hl ht hd
    go_enter Tryz.func44, Tryz.ntmps44
    go_wp2_with (first
      | (go_at_call 105; refine (HT.out).mono ?_; rintro e w1 ⟨z1, rfl, hn1⟩)
      | fail)
    go_ret2
    exact DTakeP.mk HD.out (H.out.pooled hn1)
  | none =>
    have ht : takeR p = (4, 0, p) := by unfold takeR; rw [hl]
    rw [ht] at HT
    have HLO := Lib.hid hl
    by_cases hx : ∃ (i : Nat) (s : Slot), D[i]? = some s ∧ p.cnt s.frame = 1 ∧ ∀ (j : Nat) (t : Slot), j < i → D[j]? = some t → p.cnt t.frame ≠ 1
    · obtain ⟨i, s, hs, h1, hb⟩ := hx
      have HD := Lib.hid (dtake_loose hl hs h1 hb)
      have HS := Lib.hid hs
      have H1 := Lib.hid h1
      have HFI : Hid (firstI D (fun s => p.cnt s.frame == 1) = (i : Int)) := Lib.hid (firstI_at hs (beq_iff_eq.2 h1) fun j t hj ht => beq_eq_false_iff_ne.2 (hb j t hj ht))
      have hil := (List.getElem?_eq_some_iff.1 hs).1
      have hfr := hlow s (List.mem_of_getElem? hs)
      have hni : ¬ (i : Int) < 0 := by omega
      have HDN : Hid (downR p (s.frame : Int) = (0, p.down s.frame)) := Lib.hid (by unfold downR; rw [if_pos (by rw [takenB_nat]; exact decide_eq_true ⟨hfr, by omega⟩), Int.toNat_natCast])
      have HTK : Hid (takeR (p.down s.frame) = (0, s.frame, (p.down s.frame).takeAt s.frame)) := Lib.hid (by unfold takeR; rw [lowest_down hl hfr h1])
      have HCAP := Lib.hid hcap
      clear h hlow hl ht hs h1 hb hcap
      go_enter Tryz.func44, Tryz.ntmps44
      go_upto_region 9 with (first
        | (go_at_call 105; refine (HT.out).mono ?_; rintro e w1 ⟨z1, rfl, hn1⟩)
        | (go_at_call 106; refine (dloose_any (H.out.pooled hn1).is HL.out hfew).mono ?_; rintro e w2 ⟨rfl, hb2⟩; rw [HFI.out])
        | fail)
      have hx1 := H.out.pooled hn1
      have hx2 := hx1.trans (DcNext.kept hx1.is hb2)
      have HX2 := Lib.hid hx2
      obtain ⟨d0, -, d2⟩ := hx2.is.c
      obtain ⟨b, hA, hb, i1, i2, s0, s1, s2⟩ := hx2.is.row.slotAt HS.out
      rw [show ({ y with z := z1 } : DcW).A = y.A from rfl] at hA d2
      rw [hA] at d2
      have i3 : i < y.cap := by have : D.length ≤ y.cap := i2; omega
      have hqd := qdown_any (s.frame : Int) (hx2.is.kept ((Below.refl w2.heap.size w2).drew)).pool HCAP.out
      rw [HDN.out] at hqd
      have HQD := Lib.hid hqd
      clear hx1 hx2 hn1 hb2 hqd
      go_still_tail 12, (by kernel_rfl)
      go_wp2_with fail
      refine (HQD.out).mono ?_
      rintro e w3 ⟨rfl, hn3⟩
      have hx3 := HX2.out.trans ((DcNext.kept HX2.out.is ((Below.refl w2.heap.size w2).drew)).trans ((HX2.out.is.kept ((Below.refl w2.heap.size w2).drew)).pooled hn3))
      have HX3 := Lib.hid hx3
      obtain ⟨e0, -, e2⟩ := hx3.is.c
      rw [show ({ ({ y with z := z1 } : DcW) with z := z1 } : DcW).A = y.A from rfl] at e2
      have hwo := dwithout_any y.A B y.cap i w3 hx3.is.row hfew (by omega)
      have HWO := Lib.hid hwo
      have hyl := (hx3.is.lt y.d (.inl rfl)).2
      have hfz := one_free hx3.is.self 2
      rw [hA] at e2 HWO
      clear hx3 hn3 hwo d0 d2 s0 s1 s2
      go_upto_region 10 with fail
      go_upto_region 11 with (first
        | (go_at_call 107; refine (HWO.out).mono ?_; rintro e w4 ⟨R, c, rfl, hR, hb4⟩; have f2 := (hb4.cell (p := ⟨y.d, 2, none⟩) hyl).trans e2; have f3 := (hb4.frozen (p := ⟨y.d, 2, none⟩) hyl).trans hfz)
        | fail)
      have hx5 := HX3.out.is.rowed (Mod.of hb4) (hR.lower (Nat.le_trans hB HX3.out.mod.size)) (.inr fun b e => (hR.lt b e).1)
      obtain ⟨g0, -, -⟩ := hx5.is.c
      have hqt := qtake_any hx5.is.pool
      rw [HTK.out] at hqt
      have HQT := Lib.hid hqt
      have HX5 := Lib.hid hx5
      clear hx5 hqt hR hb4 f2 f3 e0 e2 hfz
      go_wp2_with (first
        | (go_at_call 105; refine (HQT.out).mono ?_; rintro e w6 ⟨z6, rfl, hn6⟩)
        | fail)
      go_ret2
      exact DTakeP.mk HD.out (HX3.out.trans (HX5.out.trans (HX5.out.is.pooled hn6)))
    · have hno : ∀ s ∈ D, p.cnt s.frame ≠ 1 := by
        intro s hs e
        have hsome : (D.findIdx? fun s => p.cnt s.frame == 1).isSome = true := by
          rw [List.findIdx?_isSome]
          exact List.any_eq_true.2 ⟨s, hs, beq_iff_eq.2 e⟩
        obtain ⟨i, hi⟩ := Option.isSome_iff_exists.1 hsome
        obtain ⟨hlt, h2, h3⟩ := List.findIdx?_eq_some_iff_getElem.1 hi
        exact hx ⟨i, D[i], List.getElem?_eq_getElem hlt, beq_iff_eq.1 h2, fun j t hj ht e2 => by
          obtain ⟨hj2, e3⟩ := List.getElem?_eq_some_iff.1 ht
          have := h3 j hj
          rw [e3, e2] at this
          simp at this⟩
      have HD := Lib.hid (dtake_none hl hno)
      have HFI : Hid (firstI D (fun s => p.cnt s.frame == 1) = -1) := Lib.hid (firstI_none fun j t ht => beq_eq_false_iff_ne.2 (hno t (List.mem_of_getElem? ht)))
      clear h hlow hl ht hx hno
      go_enter Tryz.func44, Tryz.ntmps44
      go_wp2_with (first
        | (go_at_call 105; refine (HT.out).mono ?_; rintro e w1 ⟨z1, rfl, hn1⟩)
        | (go_at_call 106; refine (dloose_any (H.out.pooled hn1).is HL.out hfew).mono ?_; rintro e w2 ⟨rfl, hb2⟩; rw [HFI.out])
        | fail)
      go_ret2
      exact DTakeP.mk HD.out ((H.out.pooled hn1).trans (DcNext.kept (H.out.pooled hn1).is hb2))

end Go.Proofs.YtkkmcnngpahfaaaGreatDoor
