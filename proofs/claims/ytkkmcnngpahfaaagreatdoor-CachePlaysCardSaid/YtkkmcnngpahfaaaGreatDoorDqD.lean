/- The document's cache: Get, Drop, Slots. -/
import Derived.Test.YtkkmcnngpahfaaaGreatDoorDqC
import Derived.Test.YtkkmcnngpahfaaaGreatDoorGnB
namespace Go.Proofs.YtkkmcnngpahfaaaGreatDoor
open Go.RowKit Go.Sort
set_option linter.unusedSimpArgs false
set_option linter.unusedVariables false
variable {w : World} {B g : Nat} {y : DcW} {p : Pool} {D : List Slot}

theorem DropOk.tail {p : Pool} {D left : List Slot} {s : Slot} (h : DropOk p D (s :: left)) : (s :: left).filter (fun x => !Slot.at s.ino s.page x) = left := by
  have h1 : Slot.at s.ino s.page s = true := Slot.at_iff.2 ⟨rfl, rfl⟩
  rw [List.filter_cons_of_neg (by rw [h1]; simp)]
  have h2 := (List.pairwise_cons.1 h.sole).1
  refine List.filter_eq_self.2 fun x hx => ?_
  cases hq : Slot.at s.ino s.page x with
  | false => rfl
  | true =>
    have e := Slot.at_iff.1 hq
    exact absurd ⟨e.1.symm, e.2.symm⟩ (h2 x hx)
/-- The document's Drop. -/
def DDropP (w : World) (B g : Nat) (y : DcW) (p : Pool) (D : List Slot) (e : Ending) (w' : World) : Prop := ∃ y', e = .returned (.tuple #[]) ∧ DcNext w B g y p.n w' y' (dropTo p D []) []
set_option maxRecDepth 100000 in
set_option maxHeartbeats 1000000 in
theorem ddrop_any (h : DcIs w B g y p D) (hS : Sole D) (hcnt : ∀ x ∈ D, x.frame < p.n ∧ slotN D x.frame ≤ p.cnt x.frame) (hfew : D.length ≤ 100000) (hcap : ∀ f, p.cnt f < 1000000000000) (hB : B ≤ w.heap.size) :
    Calls Tryz.prog 67 #[.pointer (some ⟨y.d, 0, none⟩)] w (DDropP w B g y p D) := by
  have H := Lib.hid h
  have HC := Lib.hid hcnt
  have HCAP := Lib.hid hcap
  have hst : DropOk p D (D.drop 0) := ⟨hS, fun _ => Nat.le_refl _, fun _ h => h⟩
  have HST := Lib.hid hst
  clear h hcnt hcap hst
  go_enter Tryz.func67, Tryz.ntmps67
  go_wp2_with fail
  go_loopw [2] (fun i wr => ∃ k : Nat, k ≤ D.length ∧ i = .int .i64 (k : Int) ∧ DcNext w B g y p.n wr y (dropTo p D (D.drop k)) D ∧ DropOk p D (D.drop k)) (fun i _ => D.length - (intOf i).toNat)
  case atStart => exact ⟨0, Nat.zero_le _, rfl, by rw [List.drop_zero, dropTo_start]; exact DcNext.refl H.out, HST.out⟩
  case round =>
    obtain ⟨k, hk, rfl, hn, hok⟩ := hrel
    have HN := Lib.hid hn
    have HOK := Lib.hid hok
    obtain ⟨c0, c1, c2⟩ := hn.is.c
    clear hn hok
    by_cases hlt : k < D.length
    · obtain ⟨s, hs⟩ : ∃ s, D[k]? = some s := ⟨_, List.getElem?_eq_getElem hlt⟩
      obtain ⟨b, hA, hb, i1, i2, s0, s1, s2⟩ := HN.out.is.row.slotAt hs
      rw [hA] at c2
      have hdr : D.drop k = s :: D.drop (k + 1) := by rw [List.drop_eq_getElem_cons hlt]; rw [List.getElem?_eq_getElem hlt] at hs; injection hs with hs; rw [hs]
      have hok2 : DropOk p D (s :: D.drop (k + 1)) := by rw [← hdr]; exact HOK.out
      obtain ⟨t1, t2, t3, t4⟩ := dropTo_step hok2 HC.out (List.mem_cons_self)
      rw [hok2.tail, ← hdr] at t3
      rw [hok2.tail] at t4
      rw [← hdr] at t1 t2
      have hqd := qdown_any (s.frame : Int) (HN.out.is.kept ((Below.refl wr.heap.size wr).drew)).pool (fun f => Nat.lt_of_le_of_lt (Nat.sub_le _ _) (HCAP.out f))
      have htk : downR (dropTo p D (D.drop k)) (s.frame : Int) = (0, dropTo p D (D.drop (k + 1))) := by
        unfold downR
        rw [if_pos (by rw [takenB_nat]; exact decide_eq_true ⟨t1, t2⟩), Int.toNat_natCast, t3]
      rw [htk] at hqd
      have HQD := Lib.hid hqd
      have HOK2 := Lib.hid t4
      have i3 : k < y.cap := by omega
      clear hs hA hdr hok2 t1 t2 t3 t4 hqd htk
      go_upto_region 4 with fail
      go_still_tail 12, (by kernel_rfl)
      go_wp2_with fail
      refine (HQD.out).mono ?_
      rintro e w1 ⟨rfl, hn1⟩
      have hx1 := HN.out.trans ((DcNext.kept HN.out.is ((Below.refl wr.heap.size wr).drew)).trans ((HN.out.is.kept ((Below.refl wr.heap.size wr).drew)).pooled hn1))
      have HX1 := Lib.hid hx1
      clear hx1 hn1 c0 c1 c2 s0 s1 s2
      go_wp2_with fail
      go_roundw
      case rel => exact ⟨k + 1, by omega, by go_num, HX1.out, HOK2.out⟩
      case measure => (simp [intOf]; omega)
    · obtain rfl : k = D.length := by omega
      have hdl : D.drop D.length = [] := List.drop_length
      rw [hdl] at HN
      have hfz := one_free HN.out.is.self 2
      have HN' := Lib.hid HN.out
      clear HN hdl
      go_wp2_with fail
      go_end0
      exact ⟨_, rfl, HN'.out.trans (HN'.out.is.rowed (A := none) (c := 0) (D' := []) (Mod.refl _ _) (OwnG.nil _ _) (.inr fun b e => by cases e))⟩
/-- The document's Get. -/
def DGetP (w : World) (B g : Nat) (y : DcW) (p : Pool) (F : List Nd) (D : List Slot) (ino page clock : Int) (e : Ending) (w' : World) : Prop := ∃ y', e = .returned (.tuple #[.int .i64 ((dget F ino page p D clock).2.1 : Nat), .int .i64 (dget F ino page p D clock).1]) ∧ DcNext w B g y p.n w' y' (dget F ino page p D clock).2.2.1 (dget F ino page p D clock).2.2.2
theorem DGetP.mk {F : List Nd} {ino page clock : Int} {w' : World} {r : Int} {f : Nat} {p' : Pool} {D' : List Slot} {y' : DcW} (hd : dget F ino page p D clock = (r, f, p', D')) (hn : DcNext w B g y p.n w' y' p' D') : DGetP w B g y p F D ino page clock (.returned (.tuple #[.int .i64 (f : Nat), .int .i64 r])) w' := ⟨y', by rw [hd], by rw [hd]; exact hn⟩
theorem dtake_live {p : Pool} {D : List Slot} (hlow : ∀ s ∈ D, s.frame < p.n) : (dtake p D).2.2.1.n = p.n ∧ ((dtake p D).1 = 0 → (dtake p D).2.1 < p.n ∧ (dtake p D).2.2.1.cnt (dtake p D).2.1 = 1) ∧ ((dtake p D).2.2.2.length ≤ D.length) := by
  unfold dtake
  split
  · next f hf => exact ⟨rfl, fun _ => ⟨(lowest_some hf).1, upd_same _ _ _⟩, Nat.le_refl _⟩
  · split
    · exact ⟨rfl, fun h => absurd h (show ¬ (4 : Int) = 0 by decide), Nat.le_refl _⟩
    · split
      · exact ⟨rfl, fun h => absurd h (show ¬ (4 : Int) = 0 by decide), Nat.le_refl _⟩
      · next s hs => exact ⟨rfl, fun _ => ⟨hlow s (List.mem_of_getElem? hs), upd_same _ _ _⟩, (List.eraseIdx_sublist _ _).length_le⟩
set_option maxRecDepth 100000 in
set_option maxHeartbeats 4000000 in
theorem dget_any {F : List Nd} {b3 cap3 : Nat} {R3 : Option Addr} {L3 : List NdR} (ino page clock : Int) (h : DcIs w B g y p D) (hF : DocFs w b3 g R3 cap3 L3 F) (hok : FOk F) (hfew3 : F.length ≤ 1000) (hlow : ∀ s ∈ D, s.frame < p.n) (hfew : D.length ≤ 100000) (hcap : ∀ f, p.cnt f < 1000000000000) (hB : B ≤ w.heap.size) :
    Calls Tryz.prog 45 #[.pointer (some ⟨y.d, 0, none⟩), .int .i64 ino, .int .i64 page] w (DGetP w B g y p F D ino page clock) := by
  obtain ⟨c0, c1, c2⟩ := h.c
  have H := Lib.hid h
  by_cases hp : page < 0 ∨ 16 ≤ page
  · have HD : Hid (dget F ino page p D clock = (1, 0, p, D)) := Lib.hid (by unfold dget; rw [if_pos hp])
    clear h hF
    rcases hp with h1 | h1
    · go_enter Tryz.func45, Tryz.ntmps45
      go_wp2_with fail
      go_ret2
      exact DGetP.mk HD.out (DcNext.refl H.out)
    · have h2 : ¬ page < 0 := by omega
      go_enter Tryz.func45, Tryz.ntmps45
      go_wp2_with fail
      go_ret2
      exact DGetP.mk HD.out (DcNext.refl H.out)
  have hp0 : ¬ page < 0 := by omega
  have hp1 : ¬ (16 : Int) ≤ page := by omega
  obtain ⟨off, hoff⟩ : ∃ off : Nat, page * 4096 = (off : Int) := ⟨(page * 4096).toNat, by omega⟩
  have hwr : IntKind.i64.wrap (page * 4096) = (off : Int) := by rw [IntKind.wrap_i64]; omega
  have hpr : pageR F ino page = readN F ino off 4096 := by
    unfold pageR
    rw [hoff, Int.toNat_natCast]
    rfl
  have hrd := rread_any ino off 4096 hF hfew3 (by omega)
  have HRD := Lib.hid hrd
  have HPR := Lib.hid hpr
  have HOK := Lib.hid hok
  have HL := Lib.hid hlow
  have HCAP := Lib.hid hcap
  have HP := Lib.hid hp
  clear h hF hrd hpr hok hlow hcap hp
  by_cases hr : (pageR F ino page).1 = 0
  rotate_left
  · obtain ⟨er0, her0⟩ : ∃ er0, er0 = (pageR F ino page).1 := ⟨_, rfl⟩
    have HD : Hid (dget F ino page p D clock = (er0, 0, p, D)) := Lib.hid (by unfold dget; rw [if_neg HP.out, if_pos hr, her0])
    rw [← her0] at hr
    have b1 : (er0 == 0) = false := by rw [beq_eq_false_iff_ne]; exact hr
    have b2 : (er0 != 0) = true := by rw [bne_iff_ne]; exact hr
    have HE0 := Lib.hid her0
    clear hr her0
    go_enter Tryz.func45, Tryz.ntmps45
    go_wp2_with (first
      | (go_at_call 108; refine (HRD.out).mono ?_; rintro e w1 ⟨Rb, k, cp, er, d, rfl, hk, hbv, hgb, hb1, hx⟩; obtain rfl : er = er0 := (by have h9 := (hx HOK.out).1; rw [← HPR.out, ← HE0.out] at h9; exact h9))
      | fail)
    go_ret2
    exact DGetP.mk HD.out (DcNext.kept H.out hb1)
  have hrd0 : Calls Tryz.prog 108 #[.pointer (some ⟨g, 0, none⟩), .int .i64 ino, .int .i64 (off : Int), .int .i64 4096] w fun e w1 => ∃ Rb k cp d, e = .returned (.tuple #[.slice Rb k cp, .int .i64 0]) ∧ Hid (BytesV w1 Rb k d) ∧ Hid (∀ y, Rb = some y → ∃ g, y = ⟨g, 0, none⟩ ∧ w.heap.size ≤ g) ∧ Hid (Below w.heap.size w w1) ∧ Hid (k ≤ 4096 ∧ k = (pageR F ino page).2.1 ∧ (0 < k → d = (pageR F ino page).2.2)) := by
    refine (HRD.out).mono ?_
    rintro e w1 ⟨Rb, k, cp, er, d, he, hk, hbv, hgb, hb1, hx⟩
    obtain ⟨x1, x2, x3⟩ := hx HOK.out
    rw [← HPR.out] at x1 x2 x3
    rw [hr] at x1
    subst x1
    exact ⟨Rb, k, cp, d, he, Lib.hid hbv, Lib.hid hgb, Lib.hid hb1, Lib.hid ⟨hk, x2, x3⟩⟩
  have HRD0 := Lib.hid hrd0
  have HR0 := Lib.hid hr
  clear hrd0 HRD hr
  cases hfi : D.findIdx? (Slot.at ino page) with
  | some i =>
    obtain ⟨hlt, h2, h3⟩ := List.findIdx?_eq_some_iff_getElem.1 hfi
    obtain ⟨s, hs⟩ : ∃ s, D[i]? = some s := ⟨_, List.getElem?_eq_getElem hlt⟩
    have hat : s.ino = ino ∧ s.page = page := Slot.at_iff.1 (by rw [List.getElem?_eq_getElem hlt] at hs; injection hs with hs; rw [← hs]; exact h2)
    have HD : Hid (dget F ino page p D clock = (0, s.frame, p, D.eraseIdx i ++ [⟨s.ino, s.page, s.frame, clock + 1⟩])) := Lib.hid (by unfold dget; simp only [hfi, hs]; rw [if_neg HP.out, if_neg (by rw [HR0.out]; simp), hat.1, hat.2])
    have HFI : Hid (firstI D (Slot.at ino page) = (i : Int)) := Lib.hid (by unfold firstI; rw [hfi])
    have HS := Lib.hid hs
    have i0 : (0 : Int) ≤ (i : Int) := by omega
    clear hfi h2 h3 hs hat
    go_enter Tryz.func45, Tryz.ntmps45
    go_upto_region 10 with (first
      | (go_at_call 108; refine (HRD0.out).mono ?_; rintro e w1 ⟨Rb, k, cp, d, rfl, HBV, HGB, HB1, HX⟩; have hd1 := H.out.kept HB1.out; obtain ⟨d0, d1, d2⟩ := hd1.c; clear hd1)
      | (go_at_call 109; refine (dfind_any ino page (H.out.kept HB1.out) hfew).mono ?_; rintro e w2 ⟨rfl, rfl⟩; rw [HFI.out])
      | fail)
    have hd1 := H.out.kept HB1.out
    obtain ⟨b, hA, hbl, i1, i2, s0, s1, s2⟩ := hd1.row.slotAt HS.out
    have hyl := (hd1.lt y.d (.inl rfl)).2
    rw [hA] at d2
    have i3 : i < y.cap := by omega
    go_upto_region 11 with fail
    obtain ⟨W, hW⟩ : ∃ W, W = w1.alloc (.cells #[.int .i64 s.ino, .int .i64 s.page, .int .i64 (s.frame : Int)] 118) := ⟨_, rfl⟩
    rw [← hW]
    have hbW : Below w1.heap.size w1 W := by rw [hW]; exact (Below.refl _ _).alloc (Nat.le_refl _) _
    have hbx : W.heap[w1.heap.size]? = some (.cells #[.int .i64 s.ino, .int .i64 s.page, .int .i64 (s.frame : Int)] 118 (0, 0)) := by rw [hW]; exact heap_alloc_new w1 _
    have hwl : w1.heap.size < W.heap.size := by rw [hW]; simp
    have hdW := hd1.kept hbW
    have x0 : W.cell? ⟨w1.heap.size, 0, none⟩ = some (.int .i64 s.ino) := one_block hbx 0
    have x1 : W.cell? ⟨w1.heap.size, 1, none⟩ = some (.int .i64 s.page) := one_block hbx 1
    have x2 : W.cell? ⟨w1.heap.size, 2, none⟩ = some (.int .i64 (s.frame : Int)) := one_block hbx 2
    have e2 : W.cell? ⟨y.d, 2, none⟩ = some (.slice (some ⟨b, 0, none⟩) D.length y.cap) := by have := hdW.c.2.2; rwa [hA] at this
    have hrow := hdW.row
    rw [hA] at hrow
    have HWO : Hid (∀ W', Below W.heap.size W W' → Calls Tryz.prog 107 #[.slice (some ⟨b, 0, none⟩) D.length y.cap, .int .i64 (i : Int)] W' fun e w' => ∃ R c, e = .returned (.slice R (D.eraseIdx i).length c) ∧ OwnG 118 3 slD w' W'.heap.size R c (D.eraseIdx i) ∧ Below W'.heap.size W' w') := Lib.hid fun W' hb' => dwithout_any (some ⟨b, 0, none⟩) B y.cap i W' (hrow.kept hb') hfew (by omega)
    have hyW := (hdW.lt y.d (.inl rfl)).2
    have hfz := one_free hdW.self 2
    have HXW := Lib.hid (show DcNext w B g y p.n W y p D from (DcNext.kept H.out HB1.out).trans (DcNext.kept hd1 hbW))
    have HA := Lib.hid hA
    have hzW := HXW.out.mod.size
    have hel : (D.eraseIdx i).length ≤ 100000 := Nat.le_trans (List.eraseIdx_sublist _ _).length_le hfew
    clear hW hbW hbx hdW hd1 hrow hA s0 s1 s2 d0 d1 d2
    refine wp_region_Z (fun w' => w'.cell? ⟨y.d, 2, none⟩ = some (.slice (some ⟨b, 0, none⟩) D.length y.cap) ∧ w'.cell? ⟨w1.heap.size, 0, none⟩ = some (.int .i64 s.ino) ∧ w'.cell? ⟨w1.heap.size, 1, none⟩ = some (.int .i64 s.page) ∧ w'.cell? ⟨w1.heap.size, 2, none⟩ = some (.int .i64 (s.frame : Int))) 12 (by kernel_rfl) (LastIs.of 14 (by kernel_rfl) (by kernel_rfl)) ⟨e2, x0, x1, x2⟩ ?_
    intro HLZ HSW
    refine zt 0 ?_
    refine zt 1 ?_
    refine zt 2 ?_
    refine zt 3 ?_
    refine zt 4 ?_
    refine zt 5 ?_
    refine zt 7 ?_
    refine wpAnyZ_two 6 8 (by kernel_rfl) rfl rfl (fun K' hK => ?_) (fun K' hK => ?_)
    focus (
      go_simp
      go_at_call 107
      refine (HWO.out _ ((Below.refl W.heap.size W).drew)).mono ?_
      rintro e w3 ⟨R, c, rfl, hR, hb3'⟩
      have hb3 : Below W.heap.size W w3 := (Below.refl W.heap.size W).drew.trans hb3'
      have hR3 : OwnG 118 3 slD w3 W.heap.size R c (D.eraseIdx i) := hR
      have hz3 := hb3.size
      have f2 := (hb3.cell (p := ⟨y.d, 2, none⟩) hyW).trans e2
      have y0 := (hb3.cell (p := ⟨w1.heap.size, 0, none⟩) hwl).trans x0
      have y1 := (hb3.cell (p := ⟨w1.heap.size, 1, none⟩) hwl).trans x1
      have y2 := (hb3.cell (p := ⟨w1.heap.size, 2, none⟩) hwl).trans x2
      go_wp2_with fail
      refine hK.out _ _ ⟨f2, y0, y1, y2⟩ (fun HSW => ?_)
      clear hK K' f2 y0 y1 y2
      try simp only [Act.put, List.setIfInBounds_toArray, List.set_cons_zero, List.set_cons_succ, List.getElem_toArray, List.getElem_cons_succ, List.getElem_cons_zero]
      refine wpAnyZ_step 8 (by kernel_rfl) rfl (fun K' hK => ?_)
      go_simp
      obtain ⟨wv, hwv⟩ : ∃ wv, wv = w3.alloc (.cells #[.int .i64 s.ino, .int .i64 s.page, .int .i64 (s.frame : Int)] 118) := ⟨_, rfl⟩
      have HBX : Hid (wv.heap[w3.heap.size]? = some (.cells (slD ⟨s.ino, s.page, s.frame, clock + 1⟩).toArray 118 (0, 0))) := Lib.hid (by rw [hwv]; exact heap_alloc_new w3 _)
      have HV : Hid (Below W.heap.size W wv) := Lib.hid (by rw [hwv]; exact hb3.alloc hz3 _)
      have HR : Hid (OwnG 118 3 slD wv W.heap.size R c (D.eraseIdx i)) := Lib.hid (by rw [hwv]; exact hR3.alloc _)
      rw [← hwv]
      clear hwv hR hR3 hb3 hb3' hz3
      generalize w3.heap.size = bx at HBX hK ⊢
      refine hK.out _ _ ⟨(HV.out.cell (p := ⟨y.d, 2, none⟩) hyW).trans e2, (HV.out.cell (p := ⟨w1.heap.size, 0, none⟩) hwl).trans x0, (HV.out.cell (p := ⟨w1.heap.size, 1, none⟩) hwl).trans x1, (HV.out.cell (p := ⟨w1.heap.size, 2, none⟩) hwl).trans x2⟩ (fun HSW => ?_)
      clear hK K')
    rotate_left
    focus (
      go_simp
      have hbA : Below W.heap.size W ((W.alloc (.cells #[.int .i64 s.ino, .int .i64 s.page, .int .i64 (s.frame : Int)] 118)).drew) := ((Below.refl _ _).alloc (Nat.le_refl _) _).drew
      have f2 := (hbA.cell (p := ⟨y.d, 2, none⟩) hyW).trans e2
      have y0 := (hbA.cell (p := ⟨w1.heap.size, 0, none⟩) hwl).trans x0
      have y1 := (hbA.cell (p := ⟨w1.heap.size, 1, none⟩) hwl).trans x1
      have y2 := (hbA.cell (p := ⟨w1.heap.size, 2, none⟩) hwl).trans x2
      refine hK.out _ _ ⟨f2, y0, y1, y2⟩ (fun HSW => ?_)
      clear hK K' f2 y0 y1 y2
      try simp only [Act.put, List.setIfInBounds_toArray, List.set_cons_zero, List.set_cons_succ, List.getElem_toArray, List.getElem_cons_succ, List.getElem_cons_zero]
      refine wpAnyZ_step 6 (by kernel_rfl) rfl (fun K' hK => ?_)
      go_simp
      go_at_call 107
      refine (HWO.out _ hbA).mono ?_
      rintro e wv ⟨R, c, rfl, hR, hb3'⟩
      have hsA : W.heap.size < ((W.alloc (.cells #[.int .i64 s.ino, .int .i64 s.page, .int .i64 (s.frame : Int)] 118)).drew).heap.size := by show _ < (W.alloc _).heap.size; simp
      have HBX : Hid (wv.heap[W.heap.size]? = some (.cells (slD ⟨s.ino, s.page, s.frame, clock + 1⟩).toArray 118 (0, 0))) := Lib.hid ((hb3'.block _ hsA).trans (heap_alloc_new W _))
      have HV : Hid (Below W.heap.size W wv) := Lib.hid (hbA.trans (hb3'.mono (Nat.le_of_lt hsA)))
      have HR : Hid (OwnG 118 3 slD wv W.heap.size R c (D.eraseIdx i)) := Lib.hid (hR.lower (Nat.le_of_lt hsA))
      clear hR hb3' hsA hbA
      go_wp2_with fail
      refine hK.out _ _ ⟨(HV.out.cell (p := ⟨y.d, 2, none⟩) hyW).trans e2, (HV.out.cell (p := ⟨w1.heap.size, 0, none⟩) hwl).trans x0, (HV.out.cell (p := ⟨w1.heap.size, 1, none⟩) hwl).trans x1, (HV.out.cell (p := ⟨w1.heap.size, 2, none⟩) hwl).trans x2⟩ (fun HSW => ?_)
      clear hK K'
      try simp only [Act.put, List.setIfInBounds_toArray, List.set_cons_zero, List.set_cons_succ, List.getElem_toArray, List.getElem_cons_succ, List.getElem_cons_zero]
      obtain ⟨bx, hbx⟩ : ∃ bx, bx = W.heap.size := ⟨_, rfl⟩
      rw [← hbx] at HBX
      rw [← hbx]
      clear hbx)
    all_goals
      try simp only [Act.put, List.setIfInBounds_toArray, List.set_cons_zero, List.set_cons_succ, List.getElem_toArray, List.getElem_cons_succ, List.getElem_cons_zero]
      refine wpAnyZ_step 9 (by kernel_rfl) rfl (fun K' hK => ?_)
      refine step_gen sd_elem (by rfl) (.tmp 54) (.tmp 56) (by rfl) W.heap.size R c (D.eraseIdx i).length (D.eraseIdx i) rfl (by rfl) HR.out ⟨s.ino, s.page, s.frame, clock + 1⟩ bx 1 (by rfl) HBX.out (by omega) HV.out.size ?_
      intro g4 cap4 w4 ho4 hg4 hat4 hlt4
      have hb34 : Below W.heap.size W w4 := HV.out.grown hg4 HV.out.size (fun b hb => by rcases HR.out.form with ⟨e, _⟩ | ⟨g1, e, h1, _⟩ <;> rw [e] at hb <;> simp at hb <;> omega)
      have p2 := (hb34.cell (p := ⟨y.d, 2, none⟩) hyW).trans e2
      have q0 := (hb34.cell (p := ⟨w1.heap.size, 0, none⟩) hwl).trans x0
      have q1 := (hb34.cell (p := ⟨w1.heap.size, 1, none⟩) hwl).trans x1
      have q2 := (hb34.cell (p := ⟨w1.heap.size, 2, none⟩) hwl).trans x2
      have pf := (hb34.frozen (p := ⟨y.d, 2, none⟩) hyW).trans hfz
      have HFIN := Lib.hid (HXW.out.is.rowed (Mod.of hb34) (ho4.lower (Nat.le_trans hB hzW)) (.inr fun b e => (ho4.lt b e).1))
      clear hg4 hat4 ho4
      refine hK.out _ _ ⟨p2, q0, q1, q2⟩ (fun HSW => ?_)
      clear hK K'
      try simp only [Act.put, List.setIfInBounds_toArray, List.set_cons_zero, List.set_cons_succ, List.getElem_toArray, List.getElem_cons_succ, List.getElem_cons_zero]
      refine zt 10 ?_
      refine zt 11 ?_
      refine wpAnyZ_last 12 (by kernel_rfl) rfl rfl (fun K' hK => ?_)
      go_simp
      refine hK.out _ _ ?_
      clear hK K'
      refine wpAnyZ_done (by kernel_rfl) ?_ _
      have HF2 := Lib.hid HFIN.out
      have hne : w1.heap.size ≠ y.d := by omega
      have hlen : (D.eraseIdx i ++ [(⟨s.ino, s.page, s.frame, clock + 1⟩ : Slot)]).length = (D.eraseIdx i).length + 1 := by simp
      rw [hlen] at HF2
      clear hlen HFIN
      go_wp2_with fail
      go_ret2
      exact DGetP.mk HD.out (HXW.out.trans HF2.out)
  | none =>
    have HFI : Hid (firstI D (Slot.at ino page) = -1) := Lib.hid (by unfold firstI; rw [hfi])
    obtain ⟨r, f, p3, D3, hdt⟩ : ∃ r f p3 D3, dtake p D = (r, f, p3, D3) := ⟨_, _, _, _, rfl⟩
    obtain ⟨t1, t2, t3⟩ := dtake_live HL.out
    rw [hdt] at t1 t2 t3
    have HTK : Hid (∀ W, Below w.heap.size w W → Calls Tryz.prog 44 #[.pointer (some ⟨y.d, 0, none⟩)] W fun e w' => ∃ y3, e = .returned (.tuple #[.int .i64 (f : Nat), .int .i64 r]) ∧ DcNext W B g y p.n w' y3 p3 D3) := Lib.hid fun W hW => (dtake_any (H.out.kept hW) HL.out hfew HCAP.out (Nat.le_trans hB hW.size)).mono fun e w' ⟨y3, he, hn⟩ => ⟨y3, by rw [he, hdt], by rw [hdt] at hn; exact hn⟩
    by_cases hr3 : r = 0
    rotate_left
    · have HD : Hid (dget F ino page p D clock = (r, 0, p3, D3)) := Lib.hid (by unfold dget; simp only [hfi, hdt]; rw [if_neg HP.out, if_neg (by rw [HR0.out]; simp), if_pos hr3])
      have b1 : (r == 0) = false := by rw [beq_eq_false_iff_ne]; exact hr3
      have b2 : (r != 0) = true := by rw [bne_iff_ne]; exact hr3
      clear hfi hdt t1 t2 t3 hr3
      go_enter Tryz.func45, Tryz.ntmps45
      go_wp2_with (first
        | (go_at_call 108; refine (HRD0.out).mono ?_; rintro e w1 ⟨Rb, k, cp, d, rfl, HBV, HGB, HB1, HX⟩; have hd1 := H.out.kept HB1.out; obtain ⟨d0, d1, d2⟩ := hd1.c; clear hd1)
        | (go_at_call 109; refine (dfind_any ino page (H.out.kept HB1.out) hfew).mono ?_; rintro e w2 ⟨rfl, rfl⟩; rw [HFI.out])
        | (go_at_call 44; refine (HTK.out _ HB1.out).mono ?_; rintro e w3 ⟨y3, rfl, hn3⟩)
        | fail)
      go_ret2
      exact DGetP.mk HD.out ((DcNext.kept H.out HB1.out).trans hn3)
    subst hr3
    obtain ⟨t4, t5⟩ := t2 rfl
    have HD : Hid (dget F ino page p D clock = (0, f, p3.store f (laid (p3.dat f) (pageR F ino page).2.2 0 (pageR F ino page).2.1), D3 ++ [⟨ino, page, f, clock + 1⟩])) := Lib.hid (by unfold dget; simp only [hfi, hdt]; rw [if_neg HP.out, if_neg (by rw [HR0.out]; simp), if_neg (by simp)])
    have HT1 := Lib.hid t1
    have HT5 := Lib.hid t5
    have hd3 : D3.length ≤ 100000 := Nat.le_trans t3 hfew
    clear hfi hdt t1 t2 t3 t5
    go_enter Tryz.func45, Tryz.ntmps45
    go_upto_region 16 with (first
      | (go_at_call 108; refine (HRD0.out).mono ?_; rintro e w1 ⟨Rb, k, cp, d, rfl, HBV, HGB, HB1, HX⟩; have hd1 := H.out.kept HB1.out; obtain ⟨d0, d1, d2⟩ := hd1.c; clear hd1)
      | (go_at_call 109; refine (dfind_any ino page (H.out.kept HB1.out) hfew).mono ?_; rintro e w2 ⟨rfl, rfl⟩; rw [HFI.out])
      | (go_at_call 44; refine (HTK.out _ HB1.out).mono ?_; rintro e w3 ⟨y3, rfl, hn3⟩)
      | fail)
    obtain ⟨f0, -, -⟩ := hn3.is.c
    rw [hn3.d.1] at f0
    have hz1 := HB1.out.size
    have hz3 := hn3.mod.size
    have hblk : ∀ ad, Rb = some ad → 0 < k → ¬ dcB y p.n ad.block ∧ ad.block < w1.heap.size := fun ad e h0 => by
      obtain ⟨g', rfl, hg'⟩ := HGB.out ad e
      obtain ⟨ad2, e2, hx⟩ := HBV.out h0
      rw [e] at e2
      injection e2 with e2
      subst e2
      have h9 := World.block_lt_of_cell? _ _ (hx 0 h0)
      rw [Addr.add_mid] at h9
      exact ⟨fun e3 => by have := (H.out.lt _ e3).2; have : g' < w.heap.size := this; omega, h9⟩
    have hqs := qstore_any f 0 k cp Rb d hn3.is.pool (by rw [HT1.out]; exact t4) (by rw [HT5.out]; exact Nat.le_refl 1) (Nat.zero_le _) (by have := HX.out.1; omega) (HBV.out.modS hn3.mod hblk) (fun ad e h0 => ⟨fun e2 => (hn3.out ad.block (.inr (.inl (by rw [← hn3.n]; exact e2)))).elim (hblk ad e h0).1 (fun h9 => by have := (hblk ad e h0).2; omega), Nat.lt_of_lt_of_le (hblk ad e h0).2 hz3⟩) (fun ad e => (HGB.out ad e).imp fun _ h => h.1) (by omega)
    have HQS := Lib.hid hqs
    have HN3 := Lib.hid hn3
    have hyd := hn3.d.1
    have HYD := Lib.hid hyd
    clear hqs hn3 hblk hyd d0 d1 d2
    go_upto_region 17 with (first
      | (go_at_call 110; refine (HQS.out).mono ?_; rintro e w4 ⟨z4, rfl, hn4⟩)
      | fail)
    have hx4 := HN3.out.is.pooled hn4
    obtain ⟨-, -, g2⟩ := hx4.is.c
    change w4.cell? ⟨y3.d, 2, none⟩ = some (.slice y3.A D3.length y3.cap) at g2
    rw [HYD.out] at g2
    have hlt4 : y.d < w4.heap.size := by rw [← HYD.out]; exact (hx4.is.lt _ (.inl rfl)).2
    have hfz4 : w4.frozen? ⟨y.d, 2, none⟩ = false := by rw [← HYD.out]; exact one_free hx4.is.self 2
    have HX4 := Lib.hid hx4
    have hbox : Below w4.heap.size w4 (w4.alloc (.cells #[.int .i64 ino, .int .i64 page, .int .i64 (f : Int)] 118)) := (Below.refl _ _).alloc (Nat.le_refl _) _
    have HBOX := Lib.hid hbox
    have hb4 : B ≤ w4.heap.size := by have := hx4.mod.size; omega
    have HNA : Hid (∀ b, y3.A = some ⟨b, 0, none⟩ → b ≠ y.d) := Lib.hid fun b e => by rw [← HYD.out]; exact (hx4.is.apart.2 b e).1
    have HRW : Hid (OwnG 118 3 slD w4 B y3.A y3.cap D3) := Lib.hid hx4.is.row
    clear hx4 hn4 hbox
    go_wp2_with (first
      | (at_builtin; refine app_gen sd_elem rfl (.tmp 81) (.tmp 86) rfl B y3.A y3.cap D3.length D3 rfl rfl (HRW.out.alloc _) ⟨ino, page, f, clock + 1⟩ w4.heap.size 1 rfl (heap_alloc_new _ _) (by omega) (by simp; omega) ?_; intro g6 cap6 w6 ho6 hg6 hat6 hlt6; obtain ⟨hm6, hn6⟩ := HRW.out.grown HBOX.out hg6; have p1 : w6.cell? ⟨y.d, 2, none⟩ = some (.slice y3.A D3.length y3.cap) := (by have h9 := hm6.block y.d hlt4 (fun e => HNA.out _ e rfl); unfold World.cell? at g2 ⊢; simp only [h9]; exact g2); have p2 : w6.frozen? ⟨y.d, 2, none⟩ = false := (by have h9 := hm6.block y.d hlt4 (fun e => HNA.out _ e rfl); unfold World.frozen? at hfz4 ⊢; simp only [h9]; exact hfz4); have HFIN := Lib.hid (HX4.out.is.rowed hm6 ho6 ((hn6 g6 hat6).imp (fun e => e.symm) (fun h => fun b e => by injection e with e; injection e with e; subst e; exact h))); clear ho6 hg6 hat6 hlt6 hm6 hn6)
      | fail)
    go_ret2
    have hfin := HFIN.out
    change DcNext w4 B g _ _ (w6.setCell ⟨y3.d, 2, none⟩ _) _ _ _ at hfin
    rw [List.length_append, List.length_singleton] at hfin
    have hlaid : laid (p3.dat f) (pageR F ino page).2.2 0 (pageR F ino page).2.1 = laid (p3.dat f) d 0 k := by
      obtain ⟨_, x2, x3⟩ := HX.out
      rw [← x2]
      by_cases h0 : 0 < k
      · rw [x3 h0]
      · obtain rfl : k = 0 := by omega
        rw [laid_zeroQ, laid_zeroQ]
    have hd := HD.out
    rw [hlaid] at hd
    have hn : p3.n = p.n := HT1.out
    have h34 := HX4.out.trans hfin
    rw [HYD.out, hn] at h34
    exact DGetP.mk hd ((DcNext.kept H.out HB1.out).trans (HN3.out.trans h34))

end Go.Proofs.YtkkmcnngpahfaaaGreatDoor
