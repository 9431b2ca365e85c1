/- CacheRoom, its walk. -/
import Derived.Test.YtmkgdgfbdmjeeaaDoorVqP
import Derived.Lib.QuietBelow
namespace Go.Proofs.YtmkgdgfbdmjeeaaDoor
open Go.RowKit Go.Sort
set_option linter.unusedSimpArgs false
set_option linter.unusedVariables false

/-- What is left to be found behind some Takes. -/
structure RoomAt (n r : Nat) (s : St8) : Prop where
  size : s.p.n = n
  sole : Sole s.L
  low : ∀ x ∈ s.L, x.frame < s.p.n
  even : ∃ hold, Even s.p s.L hold
  room : s.p.left + loose s.p s.L = r
theorem RoomAt.take {n r : Nat} {s : St8} {e : Int} {f : Nat} {p' : Pool} {L' : List Slot} (h : RoomAt n r s) (ht : TakeRes s.p s.L e f p' L') :
    (e = 0 ∧ 1 ≤ r ∧ f < n ∧ p'.cnt f = 1 ∧ RoomAt n (r - 1) ⟨p', L', s.clock, s.l, s.h⟩) ∨ (e = 4 ∧ r = 0) := by
  obtain ⟨hold, he⟩ := h.even
  rcases room_duo he h.sole h.low ht with ⟨h1, h2, h3, h4, h5, h6, h7, h8⟩ | ⟨h1, h2, _, _⟩
  · left
    have hr := h.room
    exact ⟨h1, by omega, by rw [← h.size, ← h5]; exact h3, h4, ⟨h5.trans h.size, h6, h7, h8, by show p'.left + loose p' L' = r - 1; omega⟩⟩
  · exact .inr ⟨h1, by have := h.room; omega⟩
theorem St8.Fine.roomAt {s : St8} {F : List Nd} {ext : Nat → Nat} {n k : Nat} (h : s.Fine F ext n k) : RoomAt n (s.p.left + loose s.p s.L) s := ⟨h.size, h.sole, fun x hx => by rw [h.size]; exact h.slow x hx, ⟨_, h.even⟩, rfl⟩
theorem loose_le (p : Pool) (L : List Slot) : loose p L ≤ L.length := List.countP_le_length

set_option maxRecDepth 100000 in
set_option maxHeartbeats 4000000 in
theorem room8_any (P A : Option Addr) (n cap k cap2 : Nat) (N : Int) (w : World) (hF : ArgF8 w P n cap) (hO : ArgO8 w A k cap2) (hdb : DB w) (hw0 : 0 < w.heap.size) :
    Calls Tryd.prog 12 #[.agg #[.slice P n cap, .int .i64 N], .slice A k cap2] w (LawPost8 w) := by
  obtain ⟨w0, hw0'⟩ : ∃ w0, w0 = w.alloc (.cells #[.slice P n cap, .int .i64 N] 85) := ⟨_, rfl⟩
  have hb0 : Below w.heap.size w w0 := (by rw [hw0']; exact (Below.refl _ _).alloc (Nat.le_refl _) _)
  have hX0 : Box8 w0 w.heap.size P n cap N := (by rw [hw0']; exact box8_new w P n cap N)
  have hz0 := hb0.size
  have x0 := hX0.c0
  have x1 := hX0.c1
  have hlt0 := hX0.lt
  have HWK := Lib.hid (fun W (hW : Below w.heap.size w W) => works8_any W (hdb.same (hW.block 0 hw0)) (Nat.lt_of_lt_of_le hw0 hW.size))
  have HDB := Lib.hid hdb
  have HW0 := Lib.hid hw0'
  have HB0 := Lib.hid hb0
  have HX0 := Lib.hid hX0
  clear hdb hw0' hb0 hX0
  rcases huge_or8 k N hF with hv | ⟨l, hv⟩
  · have HV := Lib.hid (vast_huge (Q := A) cap cap2 (hv.below HB0.out))
    clear hv hF hO
    go_enter Tryd.func12, Tryd.ntmps12
    go_upto_region 1 with (fail)
    rw [← HW0.out]
    go_wp2_with (first
      | (go_at_call 44; refine (HV.out).mono ?_; rintro e w1 ⟨rfl, hb1⟩; have HB1 := Lib.hid (HB0.out.trans (hb1.mono hz0)); clear hb1)
      | (go_at_call 43; refine (HWK.out _ HB1.out).mono ?_; rintro e w2 ⟨rfl, hb2⟩)
      | fail)
    go_ret
    exact ⟨rfl, HB1.out.trans (hb2.mono HB1.out.size)⟩
  have hk := hv.few
  have HN64 := Lib.hid hv.frames
  have HV := Lib.hid (vast_plain (Q := A) cap cap2 (hv.below HB0.out))
  have HPL := Lib.hid (hv.below HB0.out)
  clear hv hF
  by_cases hbad : (newM [rootNd] 0 l).1 ≠ 0 ∨ N < 1
  · have HBAD := Lib.hid hbad
    clear hbad hO
    go_enter Tryd.func12, Tryd.ntmps12
    go_upto_region 1 with (fail)
    rw [← HW0.out]
    go_wp2_with (first
      | (go_at_call 44; refine (HV.out).mono ?_; rintro e w1 ⟨rfl, hb1⟩; have HX1 := Lib.hid (HX0.out.below hb1 hlt0); have y0 := HX1.out.c0; have y1 := HX1.out.c1; have HIN1 := Lib.hid ((HPL.out.below hb1).ins); have HB1 := Lib.hid (HB0.out.trans (hb1.mono hz0)); have hz1 := HB1.out.size; clear hb1)
      | (go_at_call 45; refine (made8_bad P A n cap k cap2 N l _ HIN1.out HN64.out HBAD.out (HDB.out.same (HB1.out.block 0 hw0)) (by omega)).mono ?_; rintro e w2 ⟨rfl, hb2⟩; have HB2 := Lib.hid (HB1.out.trans (hb2.mono hz1)); clear hb2)
      | (go_at_call 43; refine (HWK.out _ HB2.out).mono ?_; rintro e w3 ⟨rfl, hb3⟩)
      | fail)
    go_ret
    exact ⟨rfl, HB2.out.trans (hb3.mono HB2.out.size)⟩
  obtain ⟨nf, rfl⟩ : ∃ nf : Nat, N = (nf : Int) := ⟨N.toNat, by omega⟩
  have hn1 : 1 ≤ nf := by omega
  have hn64 : nf ≤ 64 := by have := HN64.out; omega
  have HGOOD := Lib.hid (show (newM [rootNd] 0 l).1 = 0 from Classical.byContradiction fun h => hbad (.inl h))
  obtain ⟨ops, hops⟩ := hO.2 (by omega)
  have HOPS := Lib.hid hops
  have HLF := Lib.hid (filesOf_len (by have := HPL.out.ins.few; have := HPL.out.ins.len; omega : l.length ≤ 64))
  clear hbad hO hops HN64
  go_enter Tryd.func12, Tryd.ntmps12
  go_upto_region 1 with (fail)
  rw [← HW0.out]
  go_upto_region 6 with (first
    | (go_at_call 44; refine (HV.out).mono ?_; rintro e w1 ⟨rfl, hb1⟩; have HX1 := Lib.hid (HX0.out.below hb1 hlt0); have y0 := HX1.out.c0; have y1 := HX1.out.c1; have HIN1 := Lib.hid ((HPL.out.below hb1).ins); have HB1 := Lib.hid (HB0.out.trans (hb1.mono hz0)); have hz1 := HB1.out.size; clear hb1)
    | (go_at_call 45; refine (made8_any P A n cap k cap2 nf l ops _ HIN1.out hn1 hn64 HGOOD.out ((HOPS.out.below HB1.out (Nat.le_refl _)).more hz1) (by omega) (HDB.out.same (HB1.out.block 0 hw0)) (by omega)).mono ?_; rintro e w2 ⟨B, o, a, c, fs, m, S, s, Hl, cl, Hh, ch, rfl, hrun, hfine, hb2, hB⟩; have HRUN := Lib.hid hrun; have HFINE := Lib.hid hfine; have HB2 := Lib.hid (HB1.out.trans (hb2.mono hz1)); have hBw : w.heap.size ≤ B := (by omega); have hz2 := HB2.out.size; clear hrun hfine hb2 hB)
    | fail)
  have o0 : w2.cell? ⟨o, 0, none⟩ = some (.pointer (some ⟨a, 0, none⟩)) := one_block HRUN.out.self 0
  have o2 : w2.cell? ⟨o, 2, none⟩ = some (.pointer (some ⟨c, 0, none⟩)) := one_block HRUN.out.self 2
  have HFREE := Lib.hid (pfree_any a w2 S s.p HRUN.out.cache.pool)
  have HSL := Lib.hid (slots8 B o a c fs m nf k cl ch w2 S _ s _ Hl Hh HRUN.out HFINE.out (by omega) HLF.out)
  obtain ⟨r0, hr0⟩ : ∃ r0, r0 = s.p.left := ⟨_, rfl⟩
  have hr0n : r0 ≤ 1000 := by rw [hr0]; have := freeTo_le s.p.cnt s.p.n; have := HFINE.out.size; show freeTo s.p.cnt s.p.n ≤ 1000; omega
  rw [← hr0] at HFREE
  have HR0 := Lib.hid hr0
  clear hr0
  go_upto_region 8 with (first
    | (go_at_call 23; refine (HFREE.out).mono ?_; rintro e w3 ⟨rfl, rfl⟩)
    | (go_at_call 40; refine (HSL.out).mono ?_; rintro e w3 ⟨A6, cap6, L6, rfl, hO6, hp6, hr6, hb6⟩)
    | fail)
  have hr3 := HRUN.out.below hb6
  have hL6 : L6.length ≤ 1000 := by have := hp6.length_eq; have := HFINE.out.few; omega
  obtain ⟨p3, hp3⟩ : ∃ p3, p3 = s.p := ⟨_, rfl⟩
  have hlow6 : ∀ x ∈ L6, x.frame < nf := fun x hx => HFINE.out.slow x (hp6.mem_iff.1 hx)
  have hcount : ∀ (f : Nat) (W : World), f < nf → Below w3.heap.size w3 W → Calls Tryd.prog 30 #[.pointer (some ⟨a, 0, none⟩), .int .i64 (f : Int)] W fun e w' => e = .returned (.int .i64 (p3.cnt f : Int)) ∧ Below W.heap.size W w' := fun f W hf hW => by
    have h9 := count8 B o a c fs m nf k cl ch f W S _ s _ Hl Hh (hr3.below hW) HFINE.out hf
    rw [← hp3] at h9
    exact h9.mono fun _ _ ⟨h1, h2⟩ => ⟨h1, h2 ▸ Below.refl _ _⟩
  have hroom := HFINE.out.roomAt
  have hlp : loose s.p s.L = loose p3 L6 := by rw [hp3]; exact (loose_perm hp6 s.p).symm
  rw [hlp, ← HR0.out] at hroom
  have HCOUNT := Lib.hid hcount
  have HROOM := Lib.hid hroom
  have HO6 := Lib.hid hO6
  have HLOW := Lib.hid hlow6
  have HR3 := Lib.hid hr3
  have HB3 := Lib.hid (HB2.out.trans (hb6.mono hz2))
  have l1 := HR3.out.lts.1
  have p0 : w3.cell? ⟨o, 0, none⟩ = some (.pointer (some ⟨a, 0, none⟩)) := one_block HR3.out.self 0
  clear hcount hroom hlp hO6 hp6 hr6 hb6 hr3 hlow6 hp3 HR0 o0 o2
  go_wp2_with fail
  go_loopw [6, 8] (fun v i wr => ∃ q : Nat, v = .int .i64 ((r0 + loose p3 (L6.take q) : Nat) : Int) ∧ i = .int .i64 (q : Int) ∧ q ≤ L6.length ∧ Below w3.heap.size w3 wr) (fun _ i _ => L6.length - (intOf i).toNat)
  case atStart => exact ⟨0, rfl, rfl, Nat.zero_le _, Below.refl _ _⟩
  case round =>
    obtain ⟨q, rfl, rfl, hq, hbq0⟩ := hrel
    have HBQ := Lib.hid hbq0
    clear hbq0
    by_cases hql : q < L6.length
    · obtain ⟨x, hx⟩ : ∃ x, L6[q]? = some x := ⟨L6[q], List.getElem?_eq_getElem hql⟩
      have hcs := loose_take_succ (p := p3) hx
      have hxn := HLOW.out x (List.mem_of_getElem? hx)
      rcases HO6.out.form with ⟨_, h2, _⟩ | ⟨g, cur, hg1, _, hg2, hg3, _⟩
      · rw [h2] at hql; exact absurd hql (Nat.not_lt_zero _)
      subst hg1
      have hcell : w3.cell? ⟨g, q * 3 + 2, none⟩ = some (.int .i64 (x.frame : Int)) := HO6.out.cell (k := q) (j := 2) (by omega) hx
      have e1 : wr.cell? ⟨g, q * 3 + 2, none⟩ = some (.int .i64 (x.frame : Int)) := (HBQ.out.cell (p := ⟨g, q * 3 + 2, none⟩) hg2).trans hcell
      have e2 : wr.cell? ⟨o, 0, none⟩ = some (.pointer (some ⟨a, 0, none⟩)) := (HBQ.out.cell (p := ⟨o, 0, none⟩) l1).trans p0
      have d0 : ∀ d os, (grow (redrawn wr d) os).cell? ⟨o, 0, none⟩ = some (.pointer (some ⟨a, 0, none⟩)) := fun d os => cell_regrown e2 d os
      have d1 : ∀ d os, (grow (redrawn wr d) os).cell? ⟨g, q * 3 + 2, none⟩ = some (.int .i64 (x.frame : Int)) := fun d os => cell_regrown e1 d os
      have HG := Lib.hid (fun d os => Calls.regrown_of (HCOUNT.out x.frame (grow (redrawn wr d) os) hxn (HBQ.out.trans ((below_regrown wr d os).mono HBQ.out.size))))
      have hcb : loose p3 (L6.take q) ≤ 1000 := Nat.le_trans (loose_le _ _) (by rw [List.length_take]; omega)
      have hqc : q < cap6 := by omega
      have HCS := Lib.hid hcs
      clear hcs hx hcell
      go_upto_region 11 with (fail)
      refine wp_region_quiet_below (by kernel_rfl) (by kernel_rfl) ?_; (repeat (go_big_quiet_step ((exact HG.out _ _)))); refine wpQuiet_nil ?_; intro _ hw'; obtain ⟨⟨dq, osq⟩, hw''⟩ := hw'; subst hw''; have hbq := below_regrown (wr) dq osq; generalize grow (redrawn (wr) dq) osq = wq at hbq ⊢
      have HBN := Lib.hid (HBQ.out.trans (hbq.mono HBQ.out.size))
      clear d0 d1 e1 e2 hbq
      by_cases e : p3.cnt x.frame = 1
      · have he : ((p3.cnt x.frame : Int) == 1) = true := by rw [beq_iff_eq]; omega
        have HE := Lib.hid e
        clear e
        go_wp2_with fail
        go_roundw
        case rel => exact ⟨q + 1, by rw [HCS.out, if_pos HE.out]; go_num, by go_num, by omega, HBN.out⟩
        case measure => (simp [intOf]; omega)
      · have he : ((p3.cnt x.frame : Int) == 1) = false := by rw [beq_eq_false_iff_ne]; omega
        have HE := Lib.hid e
        clear e
        go_wp2_with fail
        go_roundw
        case rel => exact ⟨q + 1, by rw [HCS.out, if_neg HE.out]; rfl, by go_num, by omega, HBN.out⟩
        case measure => (simp [intOf]; omega)
    · obtain rfl : q = L6.length := by omega
      obtain ⟨R, hR⟩ : ∃ R, R = r0 + loose p3 L6 := ⟨_, rfl⟩
      have hRn : R ≤ 2000 := by rw [hR]; have := loose_le p3 L6; omega
      have HROOM2 : Hid (RoomAt nf R s) := Lib.hid (by rw [hR]; exact HROOM.out)
      have hR1 : r0 + loose p3 (L6.take L6.length) = R := by rw [List.take_length, hR]
      rw [hR1]
      have HRW := Lib.hid (HR3.out.below HBQ.out)
      have HBW := Lib.hid (HB3.out.trans (HBQ.out.mono HB3.out.size))
      clear hR hR1 HROOM HCOUNT
      go_wp2_with fail
      go_loopw [9] (fun i wx => ∃ (q : Nat) (S' : Nat → Prop) (s' : St8), i = .int .i64 (q : Int) ∧ q ≤ R ∧ Run8 wx B o a c fs m S' (filesOf l) s' Hl cl Hh ch ∧ RoomAt nf (R - q) s' ∧ Below w.heap.size w wx) (fun i _ => R - (intOf i).toNat)
      case atStart => exact ⟨0, S, s, rfl, Nat.zero_le _, HRW.out, HROOM2.out, HBW.out⟩
      case round =>
        obtain ⟨q, S', s', rfl, hq, hrun, hroom, hbel⟩ := hrel
        have HRN := Lib.hid hrun
        have HRO := Lib.hid hroom
        have HBX := Lib.hid hbel
        have x2 : wr.cell? ⟨o, 2, none⟩ = some (.pointer (some ⟨c, 0, none⟩)) := one_block hrun.self 2
        have HT := Lib.hid (take8 B o a c fs m cl ch wr S' _ s' Hl Hh hrun)
        clear hrun hroom hbel
        by_cases hlt : q < R
        · go_upto_region 17 with (first
            | (go_at_call 35; refine (HT.out).mono ?_; rintro e w4 ⟨r, f, p', L', S4, rfl, HR4, HBL4, HRES⟩)
            | fail)
          rcases HRO.out.take HRES.out with ⟨h1, h2, h3, h4, h5⟩ | ⟨h1, h2⟩
          rotate_left
          · omega
          subst h1
          have y0 : w4.cell? ⟨o, 0, none⟩ = some (.pointer (some ⟨a, 0, none⟩)) := one_block HR4.out.self 0
          have h9 := count_any a (f : Int) w4 S4 p' HR4.out.cache.pool
          rw [countB_nat (by rw [h5.size]; exact h3), h4] at h9
          have HC4 := Lib.hid h9
          have HRO4 := Lib.hid h5
          have HB4 := Lib.hid (HBX.out.trans (HBL4.out.mono hBw))
          clear h9 h5 h4 x2
          go_wp2_with (first
            | (go_at_call 30; refine (HC4.out).mono ?_; rintro e w5 ⟨rfl, rfl⟩)
            | fail)
          go_roundw
          case rel => exact ⟨q + 1, S4, _, by go_num, by omega, HR4.out, by rw [show R - (q + 1) = R - q - 1 by omega]; exact HRO4.out, HB4.out⟩
          case measure => (simp [intOf]; omega)
        · obtain rfl : q = R := by omega
          go_upto_region 20 with (first
            | (go_at_call 35; refine (HT.out).mono ?_; rintro e w4 ⟨r, f, p', L', S4, rfl, HR4, HBL4, HRES⟩)
            | fail)
          rcases HRO.out.take HRES.out with ⟨h1, h2, h3, h4, h5⟩ | ⟨h1, h2⟩
          · omega
          subst h1
          have HB4 := Lib.hid (HBX.out.trans (HBL4.out.mono hBw))
          go_wp2_with (first
            | (go_at_call 43; refine (HWK.out _ HB4.out).mono ?_; rintro e w7 ⟨rfl, hb7⟩)
            | fail)
          go_ret
          exact ⟨rfl, HB4.out.trans (hb7.mono HB4.out.size)⟩

end Go.Proofs.YtmkgdgfbdmjeeaaDoor
