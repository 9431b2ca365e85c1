/- Both caches beside each other: alike. Both caches beside each other: every byte. Both caches beside each other: begun. CachePlays, its walk. -/
import Derived.Test.YtkkmcnngpahfaaaGreatDoorVrG
import Derived.Deep.QuietTactic
import Derived.BigQuiet
import Derived.Lib.QuietBelow
import Derived.Test.YtkkmcnngpahfaaaGreatDoorMgd
import Derived.Test.YtkkmcnngpahfaaaGreatDoorHrE
import Derived.Test.YtkkmcnngpahfaaaGreatDoorVrK

namespace Go.Proofs.YtkkmcnngpahfaaaGreatDoor
open Go.RowKit Go.Sort
set_option linter.unusedSimpArgs false
set_option linter.unusedVariables false
variable {w : World} {x : Loc} {S : Nat → Prop} {y : DcW} {F : List Nd} {s : St8} {D : List Slot} {Hl Hh : Option Addr} {cl ch n k : Nat}

theorem OwnQ.slotAt {A : Option Addr} {base cap : Nat} {l : List Slot} (h : OwnQ w base A cap l) {i : Nat} {t : Slot} (hs : l[i]? = some t) :
    ∃ b, A = some ⟨b, 0, none⟩ ∧ b < w.heap.size ∧ i < l.length ∧ l.length ≤ cap ∧ w.cell? ⟨b, i * 3, none⟩ = some (.int .i64 t.ino) ∧ w.cell? ⟨b, i * 3 + 1, none⟩ = some (.int .i64 t.page) ∧ w.cell? ⟨b, i * 3 + 2, none⟩ = some (.int .i64 (t.frame : Int)) := by
  have hi := (List.getElem?_eq_some_iff.1 hs).1
  rcases h.form with ⟨_, e, _⟩ | ⟨b, _, rfl, _, e2, e3, _⟩
  · rw [e] at hi; simp at hi
  · exact ⟨b, rfl, e2, hi, e3, h.cell (j := 0) (by decide) hs, h.cell (j := 1) (by decide) hs, h.cell (j := 2) (by decide) hs⟩
set_option maxRecDepth 100000 in
set_option maxHeartbeats 8000000 in
theorem alike2_any (h : Run2 w x S y F s s.p D Hl cl Hh ch) (ha : Alike8 F n k s s.p D) (hk : k ≤ 1000) (hF : F.length ≤ 1000) :
    Calls Tryz.prog 17 #[.pointer (some ⟨x.o, 0, none⟩)] w fun e w' => e = .returned (.bool true) ∧ Below w.heap.size w w' := by
  have hfew := ha.fine.few
  have hfx := ha.facts hk
  have HPS := Lib.hid (r2_pslots h (by omega) (ha.fine.small hF))
  have o1 : w.cell? ⟨x.o, 1, none⟩ = some (.pointer (some ⟨x.c, 0, none⟩)) := one_block h.self 1
  have HRUN := Lib.hid h
  have HA := Lib.hid ha
  have HFX := Lib.hid hfx
  clear h ha hfx
  go_enter Tryz.func17, Tryz.ntmps17
  go_upto_region 2 with (first
    | (go_at_call 61; refine (HPS.out).mono ?_; rintro e w1 ⟨A, cap, l, rfl, hQ, hP, hR, hb1⟩)
    | fail)
  have hr1 := HRUN.out.below hb1
  have hso : sortD D = l := sorted_same HA.out.ord HA.out.fine.sole hP hR
  have hll : l.length = s.L.length := hP.length_eq
  have HDS := Lib.hid (r2_dslots hr1 HFX.out.2.1)
  have o3 : w1.cell? ⟨x.o, 3, none⟩ = some (.pointer (some ⟨y.d, 0, none⟩)) := one_block hr1.self 3
  have HQ := Lib.hid hQ
  have HB1 := Lib.hid hb1
  have HSO := Lib.hid hso
  have hl3 : l.length ≤ 1000 := by omega
  clear o1 hQ hP hR hb1 hr1 hso hll
  go_upto_region 3 with (first
    | (go_at_call 68; refine (HDS.out).mono ?_; rintro e w2 ⟨R, c, rfl, hO, hb2⟩; rw [HSO.out])
    | fail)
  rw [HSO.out] at hO
  have hb02 : Below w.heap.size w w2 := HB1.out.trans (hb2.mono HB1.out.size)
  have hr2 := HRUN.out.below hb02
  have HQ2 := Lib.hid (HQ.out.below hb2 (Nat.le_refl _))
  have HO2 := Lib.hid hO
  have HB2 := Lib.hid hb02
  have HR2 := Lib.hid hr2
  have p0 : w2.cell? ⟨x.o, 0, none⟩ = some (.pointer (some ⟨x.a, 0, none⟩)) := one_block hr2.self 0
  have p2 : w2.cell? ⟨x.o, 2, none⟩ = some (.pointer (some ⟨y.z.q, 0, none⟩)) := one_block hr2.self 2
  have d0 : ∀ d os, (grow (redrawn w2 d) os).cell? ⟨x.o, 0, none⟩ = some (.pointer (some ⟨x.a, 0, none⟩)) := fun d os => cell_regrown p0 d os
  have d1 : ∀ d os, (grow (redrawn w2 d) os).cell? ⟨x.o, 2, none⟩ = some (.pointer (some ⟨y.z.q, 0, none⟩)) := fun d os => cell_regrown p2 d os
  have HG1 := Lib.hid (fun d os => Calls.regrown_of ((pfree_any x.a (grow (redrawn w2 d) os) S s.p (HR2.out.below (below_regrown w2 d os)).cache.pool).mono fun _ _ ⟨h1, h2⟩ => ⟨h1, h2 ▸ Below.refl _ _⟩))
  have HG2 := Lib.hid (fun d os => Calls.regrown_of ((qfree_any (HR2.out.below (below_regrown w2 d os)).doc.pool).mono fun _ _ ⟨h1, h2⟩ => ⟨h1, h2 ▸ Below.refl _ _⟩))
  clear o3 hO hb2 hb02 hr2
  refine wp_region_quiet_below (by kernel_rfl) (by kernel_rfl) ?_; (repeat (go_big_quiet_step ((first | exact HG1.out _ _ | exact HG2.out _ _)))); refine wpQuiet_nil ?_; intro _ hw'; obtain ⟨⟨dq, osq⟩, hw''⟩ := hw'; subst hw''; have hbq := below_regrown (w2) dq osq; generalize grow (redrawn (w2) dq) osq = wq at hbq ⊢
  clear d0 d1 p0 p2
  have HBq := Lib.hid (HB2.out.trans (hbq.mono HB2.out.size))
  have HRq := Lib.hid (HR2.out.below hbq)
  have HQq := Lib.hid (HQ2.out.below hbq (Nat.le_refl _))
  have HOq := Lib.hid (HO2.out.kept hbq)
  have hn4 := HRq.out.doc.pool.few
  clear hbq
  go_wp2_with fail
  go_loopw [5] (fun i wr => ∃ j : Nat, j ≤ l.length ∧ i = .int .i64 (j : Int) ∧ Below wq.heap.size wq wr) (fun i _ => l.length - (intOf i).toNat)
  case atStart => exact ⟨0, Nat.zero_le _, rfl, Below.refl _ _⟩
  case round =>
    obtain ⟨j, hj, rfl, hbe⟩ := hrel
    have HBE := Lib.hid hbe
    clear hbe
    by_cases hlt : j < l.length
    · obtain ⟨t, ht⟩ : ∃ t, l[j]? = some t := ⟨_, List.getElem?_eq_getElem hlt⟩
      obtain ⟨b1, rfl, _, _, i1, u0, u1, u2⟩ := (HQq.out.below HBE.out (Nat.le_refl _)).slotAt ht
      obtain ⟨b2, rfl, _, _, i2, v0, v1, v2⟩ := (HOq.out.kept HBE.out).slotAt ht
      have i3 : j < cap := by omega
      have i4 : j < c := by omega
      have d0 : ∀ d os, (grow (redrawn wr d) os).cell? ⟨b1, j * 3, none⟩ = some (.int .i64 t.ino) := fun d os => cell_regrown u0 d os
      have d1 : ∀ d os, (grow (redrawn wr d) os).cell? ⟨b1, j * 3 + 1, none⟩ = some (.int .i64 t.page) := fun d os => cell_regrown u1 d os
      have d2 : ∀ d os, (grow (redrawn wr d) os).cell? ⟨b1, j * 3 + 2, none⟩ = some (.int .i64 (t.frame : Int)) := fun d os => cell_regrown u2 d os
      have d3 : ∀ d os, (grow (redrawn wr d) os).cell? ⟨b2, j * 3, none⟩ = some (.int .i64 t.ino) := fun d os => cell_regrown v0 d os
      have d4 : ∀ d os, (grow (redrawn wr d) os).cell? ⟨b2, j * 3 + 1, none⟩ = some (.int .i64 t.page) := fun d os => cell_regrown v1 d os
      have d5 : ∀ d os, (grow (redrawn wr d) os).cell? ⟨b2, j * 3 + 2, none⟩ = some (.int .i64 (t.frame : Int)) := fun d os => cell_regrown v2 d os
      clear u0 u1 u2 v0 v1 v2 ht
      go_upto_region 8 with fail
      refine wp_region_quiet_below (by kernel_rfl) (by kernel_rfl) ?_; (repeat (go_big_quiet_step ((fail)))); refine wpQuiet_nil ?_; intro _ hw'; obtain ⟨⟨dq, osq⟩, hw''⟩ := hw'; subst hw''; have hbz := below_regrown (wr) dq osq; generalize grow (redrawn (wr) dq) osq = wz at hbz ⊢
      clear d0 d1 d2 d3 d4 d5
      go_wp2_with fail
      go_roundw
      case rel => exact ⟨j + 1, by omega, by go_num, HBE.out.trans (hbz.mono HBE.out.size)⟩
      case measure => (simp [intOf]; omega)
    · obtain ⟨wl, hwl⟩ : ∃ wl, wl = wr := ⟨_, rfl⟩
      subst hwl
      have HBL := Lib.hid (HBq.out.trans (HBE.out.mono HBq.out.size))
      have HRL := Lib.hid (HRq.out.below HBE.out)
      obtain rfl : j = l.length := by omega
      go_wp2_with fail
      go_loopw [6] (fun i wr => ∃ f : Nat, f ≤ s.p.n ∧ i = .int .i64 (f : Int) ∧ Below wl.heap.size wl wr) (fun i _ => s.p.n - (intOf i).toNat)
      case atStart => exact ⟨0, Nat.zero_le _, rfl, Below.refl _ _⟩
      case round =>
        obtain ⟨f, hf, rfl, hbe⟩ := hrel
        have HBF := Lib.hid hbe
        have hrr := HRL.out.below hbe
        have HRR := Lib.hid hrr
        have p0 : wr.cell? ⟨x.o, 0, none⟩ = some (.pointer (some ⟨x.a, 0, none⟩)) := one_block hrr.self 0
        have p2 : wr.cell? ⟨x.o, 2, none⟩ = some (.pointer (some ⟨y.z.q, 0, none⟩)) := one_block hrr.self 2
        clear hbe hrr
        by_cases hlt : f < s.p.n
        · have d0 : ∀ d os, (grow (redrawn wr d) os).cell? ⟨x.o, 0, none⟩ = some (.pointer (some ⟨x.a, 0, none⟩)) := fun d os => cell_regrown p0 d os
          have d1 : ∀ d os, (grow (redrawn wr d) os).cell? ⟨x.o, 2, none⟩ = some (.pointer (some ⟨y.z.q, 0, none⟩)) := fun d os => cell_regrown p2 d os
          have HG3 := Lib.hid (fun d os => Calls.regrown_of ((count_any x.a (f : Int) (grow (redrawn wr d) os) S s.p (HRR.out.below (below_regrown wr d os)).cache.pool).mono fun e _ ⟨h1, h2⟩ => (show e = .returned (.int .i64 (s.p.cnt f : Int)) ∧ _ from ⟨by rw [h1, countB_nat hlt], h2 ▸ Below.refl _ _⟩)))
          have HG4 := Lib.hid (fun d os => Calls.regrown_of ((qcount_any f (HRR.out.below (below_regrown wr d os)).doc.pool hlt).mono fun _ _ ⟨h1, h2⟩ => ⟨h1, h2 ▸ Below.refl _ _⟩))
          go_upto_region 13 with (first
            | (go_at_call 54; refine (qsize_any HRR.out.doc.pool).mono ?_; rintro e w3 ⟨rfl, rfl⟩)
            | fail)
          refine wp_region_quiet_below (by kernel_rfl) (by kernel_rfl) ?_; (repeat (go_big_quiet_step ((first | exact HG3.out _ _ | exact HG4.out _ _)))); refine wpQuiet_nil ?_; intro _ hw'; obtain ⟨⟨dq, osq⟩, hw''⟩ := hw'; subst hw''; have hbz := below_regrown (wr) dq osq; generalize grow (redrawn (wr) dq) osq = wz at hbz ⊢
          clear d0 d1 p0 p2
          go_wp2_with fail
          go_roundw
          case rel => exact ⟨f + 1, by omega, by go_num, HBF.out.trans (hbz.mono HBF.out.size)⟩
          case measure => (simp [intOf]; omega)
        · obtain rfl : f = s.p.n := by omega
          go_wp2_with (first
            | (go_at_call 54; refine (qsize_any HRR.out.doc.pool).mono ?_; rintro e w3 ⟨rfl, rfl⟩)
            | fail)
          go_ret
          exact ⟨rfl, HBL.out.trans (HBF.out.mono HBL.out.size)⟩

end Go.Proofs.YtkkmcnngpahfaaaGreatDoor

namespace Go.Proofs.YtkkmcnngpahfaaaGreatDoor
open Go.RowKit Go.Sort
set_option linter.unusedSimpArgs false
set_option linter.unusedVariables false
variable {w : World} {x : Loc} {S : Nat → Prop} {y : DcW} {F : List Nd} {s : St8} {D : List Slot} {Hl Hh : Option Addr} {cl ch n k : Nat}

theorem OwnB.formM {w : World} {base cap n : Nat} {A : Option Addr} {d : Nat → Nat} (h : OwnB w base A cap n d) : (A = none ∧ n = 0 ∧ cap = 0) ∨ ∃ g, A = some ⟨g, 0, none⟩ ∧ base ≤ g ∧ g < w.heap.size ∧ n ≤ cap := by
  rcases h.2 with ⟨h1, h2⟩ | ⟨g, cap', cur, h1, h2, h3, h4, _⟩
  · injection h1 with e1 e2 e3
    exact .inl ⟨e1, h2, e3⟩
  · injection h1 with e1 e2 e3
    exact .inr ⟨g, e1, h2, (Array.getElem?_eq_some_iff.1 h3).1, by omega⟩
set_option maxHeartbeats 1000000 in
theorem same8_two (g1 g2 c1 c2 n : Nat) (d : Nat → Nat) (w : World) (l1 : g1 < w.heap.size) (l2 : g2 < w.heap.size) (h1 : ∀ j, j < n → w.cell? ⟨g1, j, none⟩ = some (.int .u8 (d j : Int))) (h2 : ∀ j, j < n → w.cell? ⟨g2, j, none⟩ = some (.int .u8 (d j : Int))) (n1 : n ≤ c1) (n2 : n ≤ c2) (hfew : n ≤ 10000000) :
    Calls Tryz.prog 71 #[.slice (some ⟨g1, 0, none⟩) n c1, .slice (some ⟨g2, 0, none⟩) n c2] w fun e w' => e = .returned (.bool true) ∧ Below w.heap.size w w' := by
  have H1 := Lib.hid h1
  have H2 := Lib.hid h2
  clear h1 h2
  go_enter Tryz.func71, Tryz.ntmps71
  go_wp2_with fail
  go_loopw [5] (fun i wr => ∃ k : Nat, i = .int .i64 (k : Int) ∧ k ≤ n ∧ Below w.heap.size w wr) (fun i _ => n - (intOf i).toNat)
  case atStart => exact ⟨0, rfl, Nat.zero_le _, Below.refl _ _⟩
  case round =>
    obtain ⟨k, rfl, hk, hb⟩ := hrel
    have HB := Lib.hid hb
    clear hb
    by_cases hlt : k < n
    · obtain ⟨x, hx⟩ : ∃ x, x = d k := ⟨_, rfl⟩
      have d1 : ∀ dd os, (grow (redrawn wr dd) os).cell? ⟨g1, k, none⟩ = some (.int .u8 (x : Int)) := fun dd os => cell_regrown ((HB.out.cell (p := ⟨g1, k, none⟩) l1).trans (by rw [hx]; exact H1.out k hlt)) dd os
      have d2 : ∀ dd os, (grow (redrawn wr dd) os).cell? ⟨g2, k, none⟩ = some (.int .u8 (x : Int)) := fun dd os => cell_regrown ((HB.out.cell (p := ⟨g2, k, none⟩) l2).trans (by rw [hx]; exact H2.out k hlt)) dd os
      have hkl : (k : Int) < (n : Int) := by omega
      clear hx
      go_upto_region 6 with (fail)
      refine wp_region_quiet_below (by kernel_rfl) (by kernel_rfl) ?_; (repeat (go_big_quiet_step ((fail)))); refine wpQuiet_nil ?_; intro _ hw'; obtain ⟨⟨dq, osq⟩, hw''⟩ := hw'; subst hw''; have hbq := below_regrown (wr) dq osq; generalize grow (redrawn (wr) dq) osq = wq at hbq ⊢
      go_wp2_with fail
      go_roundw
      case rel => exact ⟨k + 1, by go_num, by omega, HB.out.trans (hbq.mono HB.out.size)⟩
      case measure => (simp [intOf]; omega)
    · obtain rfl : k = n := by omega
      go_wp2_with fail
      go_ret
      exact ⟨rfl, HB.out⟩
theorem qload_yes {w : World} {B f : Nat} {z : DpW} {p : Pool} (h : DpIs w B z p) (hf : f < p.n) (ht : takenB p (f : Int) = true) :
    Calls Tryz.prog 57 #[.pointer (some ⟨z.q, 0, none⟩), .int .i64 (f : Int), .int .i64 0, .int .i64 4096] w fun e w' => ∃ g cp, e = .returned (.tuple #[.slice (some ⟨g, 0, none⟩) 4096 cp, .int .i64 0]) ∧ OwnB w' w.heap.size (some ⟨g, 0, none⟩) cp 4096 (p.dat f) ∧ Below w.heap.size w w' := by
  refine (qload_any f h hf).mono ?_
  rintro e w' ⟨h1, ⟨_, g, cp, h2, h3⟩ | ⟨h2, _⟩⟩
  · exact ⟨g, cp, h2, h3, h1⟩
  · rw [ht] at h2; cases h2
theorem qload_none {w : World} {B f : Nat} {z : DpW} {p : Pool} (h : DpIs w B z p) (hf : f < p.n) (ht : takenB p (f : Int) = false) :
    Calls Tryz.prog 57 #[.pointer (some ⟨z.q, 0, none⟩), .int .i64 (f : Int), .int .i64 0, .int .i64 4096] w fun e w' => e = .returned (.tuple #[.slice none 0 0, .int .i64 1]) ∧ Below w.heap.size w w' := by
  refine (qload_any f h hf).mono ?_
  rintro e w' ⟨h1, ⟨h2, _⟩ | ⟨_, h2⟩⟩
  · rw [ht] at h2; cases h2
  · exact ⟨h2, h1⟩
theorem same8_none (w : World) : Calls Tryz.prog 71 #[.slice none 0 0, .slice none 0 0] w fun e w' => e = .returned (.bool true) ∧ Below w.heap.size w w' := by
  go_enter Tryz.func71, Tryz.ntmps71
  go_wp2_with fail
  go_loopw [5] (fun i wr => i = .int .i64 0 ∧ wr = w) (fun i _ => 0)
  case atStart => exact ⟨rfl, rfl⟩
  case round =>
    obtain ⟨rfl, rfl⟩ := hrel
    go_wp2_with fail
    go_ret
    exact ⟨rfl, Below.refl _ _⟩

set_option maxRecDepth 100000 in
set_option maxHeartbeats 8000000 in
theorem whole2_any (h : Run2 w x S y F s s.p D Hl cl Hh ch) :
    Calls Tryz.prog 18 #[.pointer (some ⟨x.o, 0, none⟩)] w fun e w' => e = .returned (.bool true) ∧ Below w.heap.size w w' := by
  have hn4 := h.doc.pool.few
  have HRUN := Lib.hid h
  clear h
  go_enter Tryz.func18, Tryz.ntmps18
  go_wp2_with fail
  go_loopw [3] (fun i wr => ∃ f : Nat, f ≤ s.p.n ∧ i = .int .i64 (f : Int) ∧ Below w.heap.size w wr) (fun i _ => s.p.n - (intOf i).toNat)
  case atStart => exact ⟨0, Nat.zero_le _, rfl, Below.refl _ _⟩
  case round =>
    obtain ⟨f, hf, rfl, hbe⟩ := hrel
    have HBF := Lib.hid hbe
    have hrr := HRUN.out.below hbe
    have HRR := Lib.hid hrr
    have p0 : wr.cell? ⟨x.o, 0, none⟩ = some (.pointer (some ⟨x.a, 0, none⟩)) := one_block hrr.self 0
    have p2 : wr.cell? ⟨x.o, 2, none⟩ = some (.pointer (some ⟨y.z.q, 0, none⟩)) := one_block hrr.self 2
    clear hbe hrr
    by_cases hlt : f < s.p.n
    · cases ht : takenB s.p (f : Int) with
      | false =>
        have HL1 := Lib.hid (load_no x.a (f : Int) 0 4096 wr S s.p HRR.out.cache.pool ht)
        have HL2 := Lib.hid (qload_none HRR.out.doc.pool hlt ht)
        clear ht
        go_wp2_with (first
          | (go_at_call 54; refine (qsize_any HRR.out.doc.pool).mono ?_; rintro e w3 ⟨rfl, rfl⟩)
          | (go_at_call 56; refine (HL1.out).mono ?_; rintro e w4 ⟨rfl, rfl⟩)
          | (go_at_call 57; refine (HL2.out).mono ?_; rintro e w5 ⟨rfl, hb5⟩)
          | (go_at_call 71; refine (same8_none _).mono ?_; rintro e w6 ⟨rfl, hb6⟩)
          | fail)
        go_roundw
        case rel => exact ⟨f + 1, by omega, by go_num, HBF.out.trans ((hb5.trans (hb6.mono hb5.size)).mono HBF.out.size)⟩
        case measure => (simp [intOf]; omega)
      | true =>
        have h1 : 1 ≤ s.p.cnt f := (of_decide_eq_true (takenB_nat.symm.trans ht)).2
        have HL1 := Lib.hid (load_yes x.a f 0 4096 wr S s.p HRR.out.cache.pool hlt h1 (by omega) (by omega))
        have HT := Lib.hid ht
        clear ht h1
        go_upto_region 5 with (first
          | (go_at_call 54; refine (qsize_any HRR.out.doc.pool).mono ?_; rintro e w3 ⟨rfl, rfl⟩)
          | (go_at_call 56; refine (HL1.out).mono ?_; rintro e w4 ⟨rfl, hby, hl4, hb4⟩)
          | fail)
        have HL2 := Lib.hid (qload_yes (HRR.out.below hb4).doc.pool hlt HT.out)
        have p3 : w4.cell? ⟨x.o, 2, none⟩ = some (.pointer (some ⟨y.z.q, 0, none⟩)) := one_block (HRR.out.below hb4).self 2
        have HB4 := Lib.hid hb4
        have HBY := Lib.hid hby
        have HL4 := Lib.hid hl4
        clear hb4 hby hl4 p0 p2
        go_upto_region 6 with (first
          | (go_at_call 57; refine (HL2.out).mono ?_; rintro e w5 ⟨g, cp, rfl, hO5, hb5⟩)
          | fail)
        have hcp : 4096 ≤ cp ∧ g < w5.heap.size := by
          rcases hO5.formM with ⟨e, _⟩ | ⟨g', e, _, e2, e3⟩
          · cases e
          · injection e with e; injection e with e; subst e; exact ⟨e3, e2⟩
        have c1 : ∀ j, j < 4096 → w5.cell? ⟨wr.heap.size, j, none⟩ = some (.int .u8 (s.p.dat f j : Int)) := fun j hj => by
          refine (hb5.cell (p := ⟨wr.heap.size, j, none⟩) HL4.out).trans ((row_cell HBY.out hj).trans ?_)
          simp only [Nat.zero_add]
        have HSM := Lib.hid (same8_two wr.heap.size g 4096 cp 4096 (s.p.dat f) w5 (by have := HL4.out; have := hb5.size; omega) hcp.2 c1 (fun j hj => hO5.cell hj) (Nat.le_refl _) hcp.1 (by omega))
        have HB5 := Lib.hid hb5
        clear hb5 hO5 c1 p3
        go_wp2_with (first
          | (go_at_call 71; refine (HSM.out).mono ?_; rintro e w6 ⟨rfl, hb6⟩)
          | fail)
        go_roundw
        case rel => exact ⟨f + 1, by omega, by go_num, HBF.out.trans ((HB4.out.trans ((HB5.out.trans (hb6.mono HB5.out.size)).mono HB4.out.size)).mono HBF.out.size)⟩
        case measure => (simp [intOf]; omega)
    · obtain rfl : f = s.p.n := by omega
      go_wp2_with (first
        | (go_at_call 54; refine (qsize_any HRR.out.doc.pool).mono ?_; rintro e w3 ⟨rfl, rfl⟩)
        | fail)
      go_ret
      exact ⟨rfl, HBF.out⟩

end Go.Proofs.YtkkmcnngpahfaaaGreatDoor

namespace Go.Proofs.YtkkmcnngpahfaaaGreatDoor
open Go.RowKit Go.Sort
set_option linter.unusedSimpArgs false
set_option linter.unusedVariables false

theorem vnew_badE (P : Option Addr) (cap : Nat) (l : List Ent) (w : World) (hl : EntsAt w P l) (hcap : l.length ≤ cap) (h64 : l.length ≤ 64) (hr : (newM [rootNd] 0 l).1 ≠ 0) :
    Calls Tryz.prog 23 #[.slice P l.length cap] w fun e w' => ∃ q, e = .returned (.tuple #[.pointer none, .int .i64 (newM [rootNd] 0 l).1, .int .i64 q]) ∧ Below w.heap.size w w' := by
  refine (vnew_any P l.length cap l w hl rfl hcap (by omega)).mono fun e w' h => ?_
  unfold VNewPostG at h
  rw [if_neg (by omega), if_pos hr] at h
  exact ⟨_, h.1, h.2⟩
theorem rnew_goodN (P : Option Addr) (n cap : Nat) (l : List Ent) (w : World) (hl : EntsIn w P l) (hn : n = l.length) (hcap : n ≤ cap) (h64 : n ≤ 64) (hsm : ∀ x ∈ l, x.n ≤ 524288 ∧ x.path.size ≤ 524288 ∧ x.to.size ≤ 524288) (hr : (newM [rootNd] 0 l).1 = 0) :
    Calls Tryz.prog 28 #[.slice P n cap] w fun e w' => ∃ q, e = .returned (.tuple #[.pointer (some ⟨q, 0, none⟩), .int .i64 0, .int .i64 0]) ∧ (∃ b R cap' L, DocFs w' b q R cap' L (filesOf l)) ∧ Below w.heap.size w w' :=
  (rnew_any P n cap l w hl hn hcap (by omega) hsm).mono fun e w' h => by
    obtain ⟨h1, h2⟩ := h
    rw [if_neg (by omega), if_neg (fun e => e hr)] at h1
    obtain ⟨q, R, cap', L, h3, h4⟩ := h1
    exact ⟨q, h3, ⟨_, R, cap', L, h4⟩, h2⟩
theorem rnew_badN (P : Option Addr) (n cap : Nat) (l : List Ent) (w : World) (hl : EntsIn w P l) (hn : n = l.length) (hcap : n ≤ cap) (h64 : n ≤ 64) (hsm : ∀ x ∈ l, x.n ≤ 524288 ∧ x.path.size ≤ 524288 ∧ x.to.size ≤ 524288) (hr : (newM [rootNd] 0 l).1 ≠ 0) :
    Calls Tryz.prog 28 #[.slice P n cap] w fun e w' => ∃ i, e = .returned (.tuple #[.pointer none, .int .i64 (newM [rootNd] 0 l).1, .int .i64 i]) ∧ Below w.heap.size w w' :=
  (rnew_any P n cap l w hl hn hcap (by omega) hsm).mono fun e w' h => by
    obtain ⟨h1, h2⟩ := h
    rw [if_neg (by omega), if_pos hr] at h1
    exact ⟨_, h1, h2⟩
theorem fnew_code (N : Int) (w : World) (hN : N ≤ 64) (hdb : DB w) (hw0 : 0 < w.heap.size) :
    Calls Tryz.prog 25 #[.int .i64 N] w fun e w' => ∃ v, e = .returned (.tuple #[.pointer v, .int .i64 (if N < 1 then 1 else 0)]) ∧ Below w.heap.size w w' := by
  by_cases h : N < 1
  · rw [if_pos h]
    exact (fnew8_bad N w h).mono fun e w' ⟨h1, h2⟩ => ⟨_, h1, h2 ▸ Below.refl _ _⟩
  · rw [if_neg h]
    obtain ⟨n, rfl⟩ : ∃ n : Nat, N = (n : Int) := ⟨N.toNat, by omega⟩
    exact (fnew_any n w (by omega) (by omega) hdb hw0).mono fun e w' ⟨a, S, h1, h2, h3, _⟩ => ⟨_, h1, h3⟩
theorem qnew_code (N : Int) (w : World) (hN : N ≤ 64) :
    Calls Tryz.prog 29 #[.int .i64 N] w fun e w' => ∃ v, e = .returned (.tuple #[.pointer v, .int .i64 (if N < 1 then 1 else 0)]) ∧ Below w.heap.size w w' := by
  by_cases h : N < 1
  · rw [if_pos h]
    exact (qnew_bad N w (.inl h)).mono fun e w' ⟨h1, h2⟩ => ⟨_, h1, h2⟩
  · rw [if_neg h]
    obtain ⟨n, rfl⟩ : ∃ n : Nat, N = (n : Int) := ⟨N.toNat, by omega⟩
    exact (qnew_any n w (by omega) (by omega)).mono fun e w' ⟨z, h1, h2, h3⟩ => ⟨_, h1, h3⟩
set_option maxHeartbeats 1000000 in
theorem dcnew_any (q g : Nat) (w : World) : Calls Tryz.prog 30 #[.pointer (some ⟨q, 0, none⟩), .pointer (some ⟨g, 0, none⟩)] w fun e w' => ∃ d, e = .returned (.tuple #[.pointer (some ⟨d, 0, none⟩), .int .i64 0]) ∧ w'.heap[d]? = some (.cells #[.pointer (some ⟨q, 0, none⟩), .pointer (some ⟨g, 0, none⟩), .slice none 0 0] 172 (0, 0)) ∧ Below w.heap.size w w' ∧ w.heap.size ≤ d := by
  go_enter Tryz.func30, Tryz.ntmps30
  go_wp2_with fail
  go_ret2
  exact ⟨w.heap.size, rfl, heap_alloc_new w _, (Below.refl _ _).alloc (Nat.le_refl _) _, Nat.le_refl _⟩
theorem DpIs.lower {w : World} {B B' : Nat} {z : DpW} {p : Pool} (h : DpIs w B z p) (hb : B' ≤ B) : DpIs w B' z p :=
  ⟨h.self, h.counts, h.rows, by have := h.low; omega, fun i hi => OwnB.ofG ((h.row i hi).toG.lower hb), h.zero, h.own, h.few⟩
theorem begun_run2 {w3 w4 w5 w6 w7 : World} {fs a c m d gd n : Nat} {z : DpW} {S : Nat → Prop} {F : List Nd}
    (hF : ∃ B1 nb c2 ad mp, FsIs w3 B1 fs nb c2 ad mp F) (hD : ∃ b3 R3 cap3 L3, DocFs w3 b3 gd R3 cap3 L3 F) (hP : PoolAt w4 S a (fresh n)) (h34 : Below w3.heap.size w3 w4) (hS : ∀ b, S b → w3.heap.size ≤ b)
    (hQ : DpIs w5 w4.heap.size z (fresh n)) (h45 : Below w4.heap.size w4 w5) (hC : CacheAt w6 S c a fs m 0 (fresh n) []) (h56 : Below w5.heap.size w5 w6) (hc : w5.heap.size ≤ c) (hm : w5.heap.size ≤ m)
    (hself : w7.heap[d]? = some (.cells #[.pointer (some ⟨z.q, 0, none⟩), .pointer (some ⟨gd, 0, none⟩), .slice none 0 0] 172 (0, 0))) (h67 : Below w6.heap.size w6 w7) (hd : w6.heap.size ≤ d) (h0 : 0 < w3.heap.size) :
    Run2 (w7.alloc (.cells #[.pointer (some ⟨a, 0, none⟩), .pointer (some ⟨c, 0, none⟩), .pointer (some ⟨z.q, 0, none⟩), .pointer (some ⟨d, 0, none⟩), .slice none 0 0, .slice none 0 0] 115)) ⟨w3.heap.size, w7.heap.size, a, c, fs, m, gd⟩ S ⟨d, z, none, 0⟩ F ⟨fresh n, [], 0, [], []⟩ (fresh n) [] none 0 none 0 := by
  have z34 := h34.size
  have z45 := h45.size
  have z56 := h56.size
  have z67 := h67.size
  have h78 := (Below.refl w7.heap.size w7).alloc (Nat.le_refl _) (.cells #[.pointer (some ⟨a, 0, none⟩), .pointer (some ⟨c, 0, none⟩), .pointer (some ⟨z.q, 0, none⟩), .pointer (some ⟨d, 0, none⟩), .slice none 0 0, .slice none 0 0] 115)
  have hcl := hC.lts
  have hdl := (Array.getElem?_eq_some_iff.1 hself).1
  have hql : ∀ b, dpB z n b → w4.heap.size ≤ b ∧ b < w5.heap.size := fun b e => hQ.lt b e
  have hsl : ∀ b, S b → b < w4.heap.size := fun b e => hP.low b e
  have hdc : ∀ b, dcB ⟨d, z, none, 0⟩ n b → b = d ∨ (w4.heap.size ≤ b ∧ b < w5.heap.size) := fun b e => by
    rcases e with e | e | e
    · exact .inl e
    · exact .inr (hql b e)
    · cases e
  have hpc : ∀ b, xP S c m b → b < w4.heap.size ∨ b = m ∨ b = c := fun b e => e.imp (hsl b) id
  have hoc : ∀ b, xO w7.heap.size none none b → b = w7.heap.size := fun b e => by
    rcases e with e | e | e
    · exact e
    · cases e
    · cases e
  have h37 : Below w3.heap.size w3 w7 := h34.trans ((h45.trans ((h56.trans (h67.mono z56)).mono z45)).mono z34)
  obtain ⟨B1, nb, c2, ad, mp, hF⟩ := hF
  obtain ⟨b3, R3, cap3, L3, hD⟩ := hD
  refine ⟨heap_alloc_new _ _, (hC.below h67).below h78, ⟨(h78.block d hdl).trans hself, (((hQ.kept h56).kept h67).kept h78).lower z34, OwnG.nil _ _, ?_⟩, ⟨w3, B1, nb, c2, ad, mp, b3, R3, cap3, L3, rfl, hF, hD, h37.trans (h78.mono (by omega))⟩, OwnN.nil _ _, OwnN.nil _ _, ?_, ?_, ?_, ⟨(by intro e; cases e), (by intro e; cases e), fun b e => by cases e⟩, ?_⟩
  · show w3.heap.size ≤ d; omega
  · intro b e e2
    rcases hdc b e2 with e2 | e2 <;> rcases hpc b e with e | e | e <;> omega
  · intro b e e2
    have hb := hoc b e2
    rcases hpc b e with e | e | e <;> omega
  · intro b e e2
    have hb := hoc b e2
    rcases hdc b e with e | e <;> omega
  · exact ⟨hS, by show w3.heap.size ≤ w7.heap.size; omega, by show w3.heap.size ≤ c; omega, by show w3.heap.size ≤ m; omega, h0⟩

set_option maxRecDepth 100000 in
set_option maxHeartbeats 4000000 in
theorem begun2_bad (P : Option Addr) (n cap : Nat) (N : Int) (l : List Ent) (w : World) (hin : In8 w P n l) (hcap : n ≤ cap) (hN : N ≤ 64) (hbad : (newM [rootNd] 0 l).1 ≠ 0 ∨ N < 1) (hdb : DB w) (hw0 : 0 < w.heap.size) :
    Calls Tryz.prog 15 #[.agg #[.slice P n cap, .int .i64 N]] w fun e w' => e = .returned (.tuple #[.pointer none, .bool true]) ∧ Below w.heap.size w w' := by
  obtain ⟨w0, hw0'⟩ : ∃ w0, w0 = w.alloc (.cells #[.slice P n cap, .int .i64 N] 42) := ⟨_, rfl⟩
  have hb0 : Below w.heap.size w w0 := by rw [hw0']; exact (Below.refl _ _).alloc (Nat.le_refl _) _
  have hX0 : Box8 w0 w.heap.size P n cap N := (by rw [hw0']; exact box8_new w P n cap N)
  have htw := twins_any P n cap l w0 (hin.ents.below hb0) hin.len hin.few hin.small
  have hz0 := hb0.size
  have hlt0 := hX0.lt
  have x0 := hX0.c0
  have hl64 : l.length ≤ 64 := by rw [← hin.len]; exact hin.few
  have HTW := Lib.hid htw
  have HW0 := Lib.hid hw0'
  have HB0 := Lib.hid hb0
  have HX0 := Lib.hid hX0
  have HDB := Lib.hid hdb
  have HL64 := Lib.hid hl64
  have HIN := Lib.hid hin
  have HCAP := Lib.hid hcap
  clear htw hw0' hb0 hX0 hdb hin hl64 hcap
  have HN := Lib.hid hN
  clear hN
  by_cases hr : (newM [rootNd] 0 l).1 = 0
  · have hN1 : N < 1 := hbad.elim (fun e => absurd hr e) id
    have HN1 := Lib.hid hN1
    have HR := Lib.hid hr
    clear hbad hr hN1
    go_enter Tryz.func15, Tryz.ntmps15
    go_upto_region 1 with (fail)
    rw [← HW0.out]
    go_wp2_with (first
      | (go_at_call 62; refine (HTW.out).mono ?_; rintro e w1 ⟨R, cp, rfl, hE, hcp, hb1⟩; have HE := Lib.hid hE; have HCP := Lib.hid hcp; have H01 := Lib.hid hb1; clear hE hcp hb1)
      | (go_at_call 23; refine (vnew_good R cp l _ HE.out HCP.out HL64.out HR.out).mono ?_; rintro e w2 ⟨fs, rfl, hF, hb2⟩; clear hF; have H02 := Lib.hid (H01.out.trans (hb2.mono H01.out.size)); have y0 := (HX0.out.below H02.out hlt0).c0; clear hb2)
      | (go_at_call 28; refine (rnew_goodN P n cap l _ ((HIN.out.below (HB0.out.trans (H02.out.mono hz0))).ents) HIN.out.len HCAP.out HIN.out.few HIN.out.small HR.out).mono ?_; rintro e w3 ⟨gd, rfl, hD, hb3⟩; clear hD; have H03 := Lib.hid (H02.out.trans (hb3.mono H02.out.size)); have y1 := (HX0.out.below H03.out hlt0).c1; clear hb3)
      | (go_at_call 25; refine (fnew8_bad N _ HN1.out).mono ?_; rintro e w4 ⟨rfl, rfl⟩)
      | (go_at_call 29; refine (qnew_bad N _ (.inl HN1.out)).mono ?_; rintro e w5 ⟨rfl, hb5⟩)
      | fail)
    go_ret2
    exact ⟨rfl, HB0.out.trans ((H03.out.trans (hb5.mono H03.out.size)).mono hz0)⟩
  · obtain ⟨r, hre⟩ : ∃ r, r = (newM [rootNd] 0 l).1 := ⟨_, rfl⟩
    obtain ⟨c, hce⟩ : ∃ c : Int, c = (if N < 1 then 1 else 0) := ⟨_, rfl⟩
    have hV := fun R cp W (h1 : EntsAt W R l) (h2 : l.length ≤ cp) => vnew_badE R cp l W h1 h2 HL64.out hr
    have hR := fun W (h1 : EntsIn W P l) => rnew_badN P n cap l W h1 HIN.out.len HCAP.out HIN.out.few HIN.out.small hr
    have hF := fun W (h1 : DB W) (h2 : 0 < W.heap.size) => fnew_code N W HN.out h1 h2
    have hQ := fun W => qnew_code N W HN.out
    rw [← hre] at hV hR hr
    rw [← hce] at hF hQ
    have hr1 : (r != 0) = true := by rw [bne_iff_ne]; exact hr
    have HV := Lib.hid hV
    have HR := Lib.hid hR
    have HF := Lib.hid hF
    have HQ := Lib.hid hQ
    clear hbad hr hre hce hV hR hF hQ
    go_enter Tryz.func15, Tryz.ntmps15
    go_upto_region 1 with (fail)
    rw [← HW0.out]
    go_wp2_with (first
      | (go_at_call 62; refine (HTW.out).mono ?_; rintro e w1 ⟨R, cp, rfl, hE, hcp, hb1⟩; have HE := Lib.hid hE; have HCP := Lib.hid hcp; have H01 := Lib.hid hb1; clear hE hcp hb1)
      | (go_at_call 23; refine (HV.out R cp _ HE.out HCP.out).mono ?_; rintro e w2 ⟨q2, rfl, hb2⟩; have H02 := Lib.hid (H01.out.trans (hb2.mono H01.out.size)); have y0 := (HX0.out.below H02.out hlt0).c0; clear hb2)
      | (go_at_call 28; refine (HR.out _ ((HIN.out.below (HB0.out.trans (H02.out.mono hz0))).ents)).mono ?_; rintro e w3 ⟨q3, rfl, hb3⟩; have H03 := Lib.hid (H02.out.trans (hb3.mono H02.out.size)); have y1 := (HX0.out.below H03.out hlt0).c1; clear hb3)
      | (go_at_call 25; refine (HF.out _ (HDB.out.same ((HB0.out.trans (H03.out.mono hz0)).block 0 hw0)) (by have := H03.out.size; omega)).mono ?_; rintro e w4 ⟨v4, rfl, hb4⟩; have H04 := Lib.hid (H03.out.trans (hb4.mono H03.out.size)); have y2 := (HX0.out.below H04.out hlt0).c1; clear hb4)
      | (go_at_call 29; refine (HQ.out _).mono ?_; rintro e w5 ⟨v5, rfl, hb5⟩)
      | fail)
    go_ret2
    exact ⟨rfl, HB0.out.trans ((H04.out.trans (hb5.mono H04.out.size)).mono hz0)⟩

/-- What begun answers where files and frames can be. -/
def Begun2Post (w : World) (n : Nat) (l : List Ent) (e : Ending) (w' : World) : Prop :=
  ∃ x S y, e = .returned (.tuple #[.pointer (some ⟨x.o, 0, none⟩), .bool true]) ∧ Run2 w' x S y (filesOf l) ⟨fresh n, [], 0, [], []⟩ (fresh n) [] none 0 none 0 ∧ Below w.heap.size w w' ∧ w.heap.size ≤ x.B
theorem Begun2Post.mk {w w' : World} {n : Nat} {l : List Ent} {x : Loc} {S : Nat → Prop} {y : DcW} (h : Run2 w' x S y (filesOf l) ⟨fresh n, [], 0, [], []⟩ (fresh n) [] none 0 none 0) (hb : Below w.heap.size w w') (hB : w.heap.size ≤ x.B) :
    Begun2Post w n l (.returned (.tuple #[.pointer (some ⟨x.o, 0, none⟩), .bool true])) w' := ⟨x, S, y, rfl, h, hb, hB⟩

set_option maxRecDepth 100000 in
set_option maxHeartbeats 4000000 in
theorem begun2_any (P : Option Addr) (n cap nf : Nat) (l : List Ent) (w : World) (hin : In8 w P n l) (hcap : n ≤ cap) (h1 : 1 ≤ nf) (h2 : nf ≤ 64) (hr : (newM [rootNd] 0 l).1 = 0) (hdb : DB w) (hw0 : 0 < w.heap.size) :
    Calls Tryz.prog 15 #[.agg #[.slice P n cap, .int .i64 (nf : Int)]] w (Begun2Post w nf l) := by
  obtain ⟨w0, hw0'⟩ : ∃ w0, w0 = w.alloc (.cells #[.slice P n cap, .int .i64 (nf : Int)] 42) := ⟨_, rfl⟩
  have hb0 : Below w.heap.size w w0 := by rw [hw0']; exact (Below.refl _ _).alloc (Nat.le_refl _) _
  have hX0 : Box8 w0 w.heap.size P n cap (nf : Int) := (by rw [hw0']; exact box8_new w P n cap (nf : Int))
  have htw := twins_any P n cap l w0 (hin.ents.below hb0) hin.len hin.few hin.small
  have hz0 := hb0.size
  have hlt0 := hX0.lt
  have x0 := hX0.c0
  have hl64 : l.length ≤ 64 := by rw [← hin.len]; exact hin.few
  have HTW := Lib.hid htw
  have HW0 := Lib.hid hw0'
  have HB0 := Lib.hid hb0
  have HX0 := Lib.hid hX0
  have HDB := Lib.hid hdb
  have HL64 := Lib.hid hl64
  have HIN := Lib.hid hin
  have HCAP := Lib.hid hcap
  clear htw hw0' hb0 hX0 hdb hin hl64 hcap
  have HR := Lib.hid hr
  clear hr
  go_enter Tryz.func15, Tryz.ntmps15
  go_upto_region 1 with (fail)
  rw [← HW0.out]
  go_wp2_with (first
    | (go_at_call 62; refine (HTW.out).mono ?_; rintro e w1 ⟨R, cp, rfl, hE, hcp, hb1⟩; have HE := Lib.hid hE; have HCP := Lib.hid hcp; have H01 := Lib.hid hb1; clear hE hcp hb1)
    | (go_at_call 23; refine (vnew_good R cp l _ HE.out HCP.out HL64.out HR.out).mono ?_; rintro e w2 ⟨fs, rfl, hF, hb2⟩; have HF := Lib.hid hF; have HB2 := Lib.hid hb2; clear hF; have H02 := Lib.hid (H01.out.trans (hb2.mono H01.out.size)); have y0 := (HX0.out.below H02.out hlt0).c0; clear hb2)
    | (go_at_call 28; refine (rnew_goodN P n cap l _ ((HIN.out.below (HB0.out.trans (H02.out.mono hz0))).ents) HIN.out.len HCAP.out HIN.out.few HIN.out.small HR.out).mono ?_; rintro e w3 ⟨gd, rfl, hD, hb3⟩; have HD := Lib.hid hD; have HB3 := Lib.hid hb3; clear hD; have H03 := Lib.hid (H02.out.trans (hb3.mono H02.out.size)); have y1 := (HX0.out.below H03.out hlt0).c1; clear hb3)
    | (go_at_call 25; refine (fnew_any nf _ h1 (by omega) (HDB.out.same ((HB0.out.trans (H03.out.mono hz0)).block 0 hw0)) (by have := H03.out.size; omega)).mono ?_; rintro e w4 ⟨a, S, rfl, hP, hb4, hS4⟩; have HP := Lib.hid hP; have HB4 := Lib.hid hb4; have HS4 := Lib.hid hS4; have H04 := Lib.hid (H03.out.trans (hb4.mono H03.out.size)); have y2 := (HX0.out.below H04.out hlt0).c1; clear hP hb4 hS4)
    | (go_at_call 29; refine (qnew_any nf _ h1 (by omega)).mono ?_; rintro e w5 ⟨z, rfl, hQ, hb5⟩; have HQ := Lib.hid hQ; have HB5 := Lib.hid hb5; clear hQ hb5)
    | (go_at_call 26; refine (cnew_any a fs _ S (fresh nf) (HP.out.below HB5.out)).mono ?_; rintro e w6 ⟨c, m, rfl, hC, hb6, hc6, hm6⟩; have HC := Lib.hid hC; have HB6 := Lib.hid hb6; have HC6 := Lib.hid hc6; have HM6 := Lib.hid hm6; clear hC hb6 hc6 hm6)
    | (go_at_call 30; refine (dcnew_any z.q gd _).mono ?_; rintro e w7 ⟨d, rfl, hself, hb7, hd7⟩; have HSE := Lib.hid hself; have HB7 := Lib.hid hb7; have HD7 := Lib.hid hd7; clear hself hb7 hd7)
    | fail)
  have hF3 : ∃ B1 nb c2 ad mp, FsIs w3 B1 fs nb c2 ad mp (filesOf l) := by
    obtain ⟨nb, c2, ad, mp, hFs⟩ := HF.out
    exact ⟨_, nb, c2, ad, mp, hFs.below HB3.out⟩
  have z3 := H03.out.size
  have z4 := HB4.out.size
  have z5 := HB5.out.size
  have z6 := HB6.out.size
  have z7 := HB7.out.size
  have hrun := begun_run2 hF3 HD.out HP.out HB4.out HS4.out HQ.out HB5.out HC.out HB6.out HC6.out HM6.out HSE.out HB7.out HD7.out (by omega)
  have h78 := (Below.refl w7.heap.size w7).alloc (Nat.le_refl _) (.cells #[.pointer (some ⟨a, 0, none⟩), .pointer (some ⟨c, 0, none⟩), .pointer (some ⟨z.q, 0, none⟩), .pointer (some ⟨d, 0, none⟩), .slice none 0 0, .slice none 0 0] 115)
  have hbe := HB0.out.trans ((H03.out.trans ((HB4.out.trans ((HB5.out.trans ((HB6.out.trans ((HB7.out.trans (h78.mono z7)).mono z6)).mono z5)).mono z4)).mono z3)).mono hz0)
  have HRUN := Lib.hid hrun
  have HBE := Lib.hid hbe
  have hzB : w.heap.size ≤ w3.heap.size := by omega
  clear hrun h78 hbe hF3
  go_ret2
  exact Begun2Post.mk HRUN.out HBE.out hzB

end Go.Proofs.YtkkmcnngpahfaaaGreatDoor

namespace Go.Proofs.YtkkmcnngpahfaaaGreatDoor
open Go.RowKit Go.Sort
set_option linter.unusedSimpArgs false
set_option linter.unusedVariables false

theorem Ord.nil0 : Ord [] 0 [] := ⟨List.Perm.refl _, List.Pairwise.nil, fun s h => by cases h⟩

set_option maxRecDepth 100000 in
set_option maxHeartbeats 4000000 in
theorem plays8_any (P A : Option Addr) (n cap k cap2 : Nat) (N : Int) (w : World) (hF : ArgF8 w P n cap) (hcap : n ≤ cap) (hO : ArgO8 w A k cap2) (hdb : DB w) (hw0 : 0 < w.heap.size) :
    Calls Tryz.prog 4 #[.agg #[.slice P n cap, .int .i64 N], .slice A k cap2] w (LawPost8 w) := by
  have HCAP := Lib.hid hcap
  clear hcap
  obtain ⟨w0, hw0'⟩ : ∃ w0, w0 = w.alloc (.cells #[.slice P n cap, .int .i64 N] 42) := ⟨_, rfl⟩
  have hb0 : Below w.heap.size w w0 := (by rw [hw0']; exact (Below.refl _ _).alloc (Nat.le_refl _) _)
  have hX0 : Box8 w0 w.heap.size P n cap N := (by rw [hw0']; exact box8_new w P n cap N)
  have hz0 := hb0.size
  have x0 := hX0.c0
  have x1 := hX0.c1
  have hlt0 := hX0.lt
  have HWK := Lib.hid (fun W (hW : Below w.heap.size w W) => works8_any W (hdb.same (hW.block 0 hw0)) (Nat.lt_of_lt_of_le hw0 hW.size))
  have HDB := Lib.hid hdb
  have HW0 := Lib.hid hw0'
  have HB0 := Lib.hid hb0
  have HX0 := Lib.hid hX0
  clear hdb hw0' hb0 hX0
  rcases huge_or8 k N hF with hv | ⟨l, hv⟩
  · have HV := Lib.hid (vast_huge (Q := A) cap cap2 (hv.below HB0.out))
    clear hv hF hO
    go_enter Tryz.func4, Tryz.ntmps4
    go_upto_region 1 with (fail)
    rw [← HW0.out]
    go_wp2_with (first
      | (go_at_call 13; refine (HV.out).mono ?_; rintro e w1 ⟨rfl, hb1⟩; have HB1 := Lib.hid (HB0.out.trans (hb1.mono hz0)); clear hb1)
      | (go_at_call 14; refine (HWK.out _ HB1.out).mono ?_; rintro e w2 ⟨rfl, hb2⟩)
      | fail)
    go_ret
    exact ⟨rfl, HB1.out.trans (hb2.mono HB1.out.size)⟩
  have hk := hv.few
  have HN64 := Lib.hid hv.frames
  have HV := Lib.hid (vast_plain (Q := A) cap cap2 (hv.below HB0.out))
  have HPL := Lib.hid (hv.below HB0.out)
  clear hv hF
  by_cases hbad : (newM [rootNd] 0 l).1 ≠ 0 ∨ N < 1
  · have HBAD := Lib.hid hbad
    clear hbad hO
    go_enter Tryz.func4, Tryz.ntmps4
    go_upto_region 1 with (fail)
    rw [← HW0.out]
    go_wp2_with (first
      | (go_at_call 13; refine (HV.out).mono ?_; rintro e w1 ⟨rfl, hb1⟩; have HX1 := Lib.hid (HX0.out.below hb1 hlt0); have y0 := HX1.out.c0; have y1 := HX1.out.c1; have HIN1 := Lib.hid ((HPL.out.below hb1).ins); have HB1 := Lib.hid (HB0.out.trans (hb1.mono hz0)); have hz1 := HB1.out.size; clear hb1)
      | (go_at_call 15; refine (begun2_bad P n cap N l _ HIN1.out HCAP.out HN64.out HBAD.out (HDB.out.same (HB1.out.block 0 hw0)) (by omega)).mono ?_; rintro e w2 ⟨rfl, hb2⟩; have HB2 := Lib.hid (HB1.out.trans (hb2.mono hz1)); clear hb2)
      | (go_at_call 14; refine (HWK.out _ HB2.out).mono ?_; rintro e w3 ⟨rfl, hb3⟩)
      | fail)
    go_ret
    exact ⟨rfl, HB2.out.trans (hb3.mono HB2.out.size)⟩
  obtain ⟨nf, rfl⟩ : ∃ nf : Nat, N = (nf : Int) := ⟨N.toNat, by omega⟩
  have hn1 : 1 ≤ nf := by omega
  have hn64 : nf ≤ 64 := by have := HN64.out; omega
  have HGOOD := Lib.hid (show (newM [rootNd] 0 l).1 = 0 from Classical.byContradiction fun h => hbad (.inl h))
  obtain ⟨ops, hops⟩ := hO.2 (by omega)
  have HOPS := Lib.hid hops
  have HLF := Lib.hid (filesOf_len (by have := HPL.out.ins.few; have := HPL.out.ins.len; omega : l.length ≤ 64))
  have HBY := Lib.hid (filesOf_bytes HPL.out.ins.ents.bytes)
  clear hbad hO hops HN64
  go_enter Tryz.func4, Tryz.ntmps4
  go_upto_region 1 with (fail)
  rw [← HW0.out]
  go_upto_region 6 with (first
    | (go_at_call 13; refine (HV.out).mono ?_; rintro e w1 ⟨rfl, hb1⟩; have HX1 := Lib.hid (HX0.out.below hb1 hlt0); have y0 := HX1.out.c0; have y1 := HX1.out.c1; have HIN1 := Lib.hid ((HPL.out.below hb1).ins); have HB1 := Lib.hid (HB0.out.trans (hb1.mono hz0)); have hz1 := HB1.out.size; clear hb1)
    | (go_at_call 15; refine (begun2_any P n cap nf l _ HIN1.out HCAP.out hn1 hn64 HGOOD.out (HDB.out.same (HB1.out.block 0 hw0)) (by omega)).mono ?_; rintro e w2 ⟨x, S, y, rfl, hrun, hb2, hB⟩; have HRUN := Lib.hid hrun; have HB2 := Lib.hid (HB1.out.trans (hb2.mono hz1)); have hBw : w.heap.size ≤ x.B := (by omega); clear hrun hb2 hB)
    | fail)
  go_wp2_with fail
  go_loopw [7] (fun i wr => ∃ (j : Nat) (S : Nat → Prop) (y : DcW) (s : St8) (D : List Slot) (Hl : Option Addr) (cl : Nat) (Hh : Option Addr) (ch : Nat), i = .int .i64 (j : Int) ∧ j ≤ k ∧ Run2 wr x S y (filesOf l) s s.p D Hl cl Hh ch ∧ Alike8 (filesOf l) nf j s s.p D ∧ Below w.heap.size w wr) (fun i _ => k - (intOf i).toNat)
  case atStart => exact ⟨0, S, y, ⟨fresh nf, [], 0, [], []⟩, [], none, 0, none, 0, rfl, Nat.zero_le _, HRUN.out, ⟨start8 _ nf, rfl, Ord.nil0⟩, HB2.out⟩
  case round =>
    clear HRUN S y
    obtain ⟨j, S, y, s, D, Hl, cl, Hh, ch, rfl, hj, hrun, hal, hbel⟩ := hrel
    have HR8 := Lib.hid hrun
    have HBE := Lib.hid hbel
    have HAL := Lib.hid hal
    clear hrun hbel hal
    by_cases hlt : j < k
    rotate_left
    · obtain rfl : j = k := by omega
      go_wp2_with (first
        | (go_at_call 18; refine (whole2_any HR8.out).mono ?_; rintro e w7 ⟨rfl, hb7⟩)
        | fail)
      go_ret
      exact ⟨rfl, HBE.out.trans (hb7.mono HBE.out.size)⟩
    obtain ⟨op, hx⟩ : ∃ op, ops[j]? = some op := ⟨ops[j]'(by rw [HOPS.out.len]; exact hlt), List.getElem?_eq_getElem _⟩
    obtain ⟨b, off, rfl, hbw, hat⟩ := HOPS.out.at_ j op hx
    have hok := HOPS.out.ok op (List.mem_of_getElem? hx)
    have hat2 := hat.below HBE.out hbw
    obtain ⟨c0, c1, c2, c3⟩ := hat2
    have hdo := does2_any op HR8.out HAL.out (by omega) HLF.out HBY.out hok
    obtain ⟨K, ino, page, N⟩ := op
    simp only at c0 c1 c2 c3
    have hdo' : Calls Tryz.prog 16 #[.pointer (some ⟨x.o, 0, none⟩), .agg #[.int .i64 K, .int .i64 ino, .int .i64 page, .int .i64 N]] wr (Does2P wr x (filesOf l) nf j ⟨K, ino, page, N⟩ s) := hdo
    have HDO := Lib.hid hdo'
    clear hat hx hok hdo hdo'
    go_upto_region 10 with (first
      | (go_at_call 16; refine (HDO.out).mono ?_; rintro e w5 ⟨rfl, s', S', y', D', Hl', cl', Hh', ch', hrun2, hres, hord, hb5⟩; have HR5 := Lib.hid hrun2; have HB5 := Lib.hid (HBE.out.trans (hb5.mono hBw)); have HA5 := Lib.hid (Alike8.mk (q := s'.p) (HAL.out.fine.step hres) rfl hord); clear hrun2 hres hord hb5)
      | fail)
    clear c0 c1 c2 c3
    go_wp2_with (first
      | (go_at_call 17; refine (alike2_any HR5.out HA5.out (by omega) HLF.out).mono ?_; rintro e w6 ⟨rfl, hb6⟩)
      | fail)
    go_roundw
    case rel => exact ⟨j + 1, S', y', s', D', Hl', cl', Hh', ch', by go_num, by omega, HR5.out.below hb6, HA5.out, HB5.out.trans (hb6.mono HB5.out.size)⟩
    case measure => (simp [intOf]; omega)

end Go.Proofs.YtkkmcnngpahfaaaGreatDoor
