/- Regions: the walk of fits. -/
import Derived.Test.YtdkhgofnhemhmaaFolD
import Derived.Lib.SmallJoins
namespace Go.Proofs.Ytdkhgofnhemhmaa
open Go.RowKit Go.Sort
set_option linter.unusedSimpArgs false
set_option linter.unusedVariables false

/-- What an address has behind a change. -/
def Rg.after (d : Int) (r : Reg) (l : List Reg) (a : Int) : Reg × Bool :=
  if r.fr ≤ a ∧ a < r.to then (if d = 1 then Rg.atf [r] a else if d = 2 then (zeroReg, false) else ((Rg.atf l a).1.withProt r.prot, (Rg.atf l a).2)) else Rg.atf l a

structure Fits (d : Int) (r : Reg) (l k : List Reg) : Prop where
  kind : d = 1 ∨ d = 2 ∨ d = 3
  same : ∀ a, Rg.atf k a = Rg.after d r l a
  had : d = 3 → ∀ a, r.fr ≤ a → a < r.to → (Rg.atf l a).2 = true

theorem rsl_one {w : World} {b B c : Nat} {r : Reg} (h : w.heap[b]? = some (.cells #[.int .u64 r.fr, .int .u64 r.to, .int .u8 r.prot, .int .i64 r.ino, .int .u64 r.off] 25 (0, 0))) (hb : b < B) (hc : 1 ≤ c) : RSl w B (some ⟨b, 0, none⟩) 1 c [r] := by
  refine ⟨rfl, hc, by omega, fun k s hk => ?_⟩
  obtain rfl : k = 0 := by
    rcases Nat.eq_zero_or_pos k with h | h
    · exact h
    · rw [List.getElem?_eq_none (by simp; omega)] at hk; simp at hk
  simp at hk
  subst hk
  exact ⟨b, 0, rfl, hb, one_block h 0, one_block h 1, one_block h 2, one_block h 3, one_block h 4⟩

set_option maxRecDepth 100000 in
set_option maxHeartbeats 4000000 in
theorem fits_1 (A B T : Option Addr) (n m nt c1 c2 ct base : Nat) (r : Reg) (w : World) (l k : List Reg) (ts : List Int) (hl : RSl w w.heap.size A n c1 l) (hk : RSl w w.heap.size B m c2 k)
    (ho : OwnU w base T ct ts) (hnt : ts.length = nt) (hts : nt ≤ 10000) (hsame : ∀ a, Rg.atf k a = Rg.after 1 r l a) :
    Calls Try.prog 29 #[.slice A n c1, .slice B m c2, .agg #[.int .i64 1, .int .u64 r.fr, .int .u64 r.to, .int .u8 r.prot, .int .i64 r.ino, .int .u64 r.off], .slice T nt ct] w
      fun e w' => e = .returned (.bool true) ∧ Below w.heap.size w w' := by
  have HNT := Lib.hid hnt
  clear hnt
  have HS := Lib.hid hsame
  clear hsame
  
  go_enter Try.func29, Try.ntmps29
  go_upto_region 1 with (fail)
  generalize hw0 : w.alloc (.cells #[.int .i64 1, .int .u64 r.fr, .int .u64 r.to, .int .u8 r.prot, .int .i64 r.ino, .int .u64 r.off] 50) = w0 at *
  have hs0 : w0.heap.size = w.heap.size + 1 := by rw [← hw0]; simp
  have HS0 := Lib.hid hs0
  have hs0' : w.heap.size < w0.heap.size := by omega
  have hB0 : Below w.heap.size w w0 := by rw [← hw0]; ((repeat' (with_reducible (first | assumption | (refine Below.alloc ?_ ?_ _) | (refine Below.setCell ?_ ?_ _) | (refine Below.drew ?_) | (refine below_drewN ?_ _) | exact Below.refl _ _ | (refine Below.trans ?_ (Below.mono (by assumption) ?_))))) <;> (try simp) <;> (try omega))
  have hx0 : w0.heap[w.heap.size]? = some (.cells #[.int .i64 1, .int .u64 r.fr, .int .u64 r.to, .int .u8 r.prot, .int .i64 r.ino, .int .u64 r.off] 50 (0, 0)) := by rw [← hw0]; exact heap_alloc_new w _
  have ho0 := ho.below hB0 (Nat.le_refl _)
  have hl0 := hl.below hB0 (Nat.le_refl _)
  have hk0 := hk.below hB0 (Nat.le_refl _)
  clear hw0 hs0 hl hk ho
  go_wp2_with fail
  go_loopw [9] (fun i wr => ∃ j : Nat, j ≤ nt ∧ i = .int .i64 j ∧ Below w0.heap.size w0 wr) (fun i _ => nt - (intOf i).toNat)
  case atStart => exact ⟨0, Nat.zero_le _, rfl, Below.refl _ _⟩
  case round =>
    obtain ⟨j, hj, rfl, hB⟩ := hrel
    have hBs := hB.size
    by_cases hlt : j < nt
    · obtain ⟨a, ha⟩ : ∃ a, ts[j]? = some a := ⟨_, List.getElem?_eq_getElem (by rw [HNT.out]; omega)⟩
      have hour := ho0.below hB (Nat.le_refl _)
      obtain ⟨g, rfl, hg1, hg2, hg3⟩ := hour.form.resolve_left (fun h => by have := h.2.1; rw [this] at ha; simp at ha)
      have he := hour.elem ha
      have hx := (hB.block _ hs0').trans hx0
      have hlr := hl0.below hB (Nat.le_of_lt hs0')
      have hkr := hk0.below hB (Nat.le_of_lt hs0')
      have HA := Lib.hid ha
      have HOU := Lib.hid hour
      have hlr' := hlr.more (B' := wr.heap.size) (by omega)
      clear ha hour
      go_wp2_with fail
      refine (at_any A n c1 a _ l hlr').mono ?_
      rintro e w1 ⟨rfl, hb1⟩
      have hz1 := hb1.size
      have hx1 := (hb1.block _ (by omega)).trans hx
      have hkr1 := hkr.below hb1 (by omega)
      obtain ⟨x, hX⟩ : ∃ x, x = Rg.atf l a := ⟨_, rfl⟩
      rw [← hX]
      have HX := Lib.hid hX
      clear hX he hx hlr hkr hlr'
      go_wp2_with fail
      have hbx := heap_alloc_new w1 (.cells #[.int .u64 x.1.fr, .int .u64 x.1.to, .int .u8 x.1.prot, .int .i64 x.1.ino, .int .u64 x.1.off] 25)
      have hkr2 := (hkr1.below (Below.alloc (Below.refl w1.heap.size w1) (Nat.le_refl _) (.cells #[.int .u64 x.1.fr, .int .u64 x.1.to, .int .u8 x.1.prot, .int .i64 x.1.ino, .int .u64 x.1.off] 25)) (by omega)).more (B' := w1.heap.size + 1) (by omega)
      have hx2 := (Below.heap_alloc w1 (.cells #[.int .u64 x.1.fr, .int .u64 x.1.to, .int .u8 x.1.prot, .int .i64 x.1.ino, .int .u64 x.1.off] 25) _ (by omega)).trans hx1
      have hb2 : Below wr.heap.size wr (w1.alloc (.cells #[.int .u64 x.1.fr, .int .u64 x.1.to, .int .u8 x.1.prot, .int .i64 x.1.ino, .int .u64 x.1.off] 25)) := hb1.alloc hz1 _
      have hs2 : (w1.alloc (.cells #[.int .u64 x.1.fr, .int .u64 x.1.to, .int .u8 x.1.prot, .int .i64 x.1.ino, .int .u64 x.1.off] 25)).heap.size = w1.heap.size + 1 := by simp
      generalize hw2 : w1.alloc (.cells #[.int .u64 x.1.fr, .int .u64 x.1.to, .int .u8 x.1.prot, .int .i64 x.1.ino, .int .u64 x.1.off] 25) = w2 at *
      rw [← hs2] at hkr2
      have hs2' : w1.heap.size < w2.heap.size := by omega
      clear hw2 hs2
      refine (at_any B m c2 a _ k hkr2).mono ?_
      rintro e w3 ⟨rfl, hb3⟩
      have hz3 := hb3.size
      have hx3 := (hb3.block _ (by omega)).trans hx2
      have hbx3 := (hb3.block _ (by omega)).trans hbx
      rw [HS.out a]
      have e1 := one_block hx3 0
      have e2 := one_block hx3 1
      have e3 := one_block hx3 2
      have e4 := one_block hx3 3
      have e5 := one_block hx3 4
      have e6 := one_block hx3 5
      simp at e1 e2 e3 e4 e5 e6
      have hlt3 : w.heap.size < w3.heap.size := by omega
      have hlt4 : w1.heap.size < w3.heap.size := by omega
      obtain ⟨d0, d1, d2, d3, d4⟩ := box_facts hbx3
      have hneq := run_neq_reg
      have HX3 := Lib.hid hx3
      have HBX3 := Lib.hid hbx3
      clear hx1 hx2 hx3 hbx hbx3
      by_cases hin : r.fr ≤ a ∧ a < r.to
      · have HI := Lib.hid hin
        obtain ⟨ha1, ha2⟩ := hin
        have hy : Rg.after 1 r l a = Rg.atf [r] a := by (unfold Rg.after; rw [if_pos HI.out, if_pos rfl])
        rw [hy]
        obtain ⟨y, hY⟩ : ∃ y, y = Rg.atf [r] a := ⟨_, rfl⟩
        rw [← hY]
        have HY := Lib.hid hY
        clear hY hy
        go_wp2_with fail
        obtain ⟨w4, hw4⟩ : ∃ w4, w4 = (w3.alloc (.cells #[.int .u64 y.1.fr, .int .u64 y.1.to, .int .u8 y.1.prot, .int .i64 y.1.ino, .int .u64 y.1.off] 25)).alloc (.cells #[.int .u64 r.fr, .int .u64 r.to, .int .u8 r.prot, .int .i64 r.ino, .int .u64 r.off] 25) := ⟨_, rfl⟩
        rw [← hw4]
        have hB4 : Below w3.heap.size w3 w4 := by (rw [hw4]; ((repeat' (with_reducible (first | assumption | (refine Below.alloc ?_ ?_ _) | (refine Below.setCell ?_ ?_ _) | (refine Below.drew ?_) | (refine below_drewN ?_ _) | exact Below.refl _ _ | (refine Below.trans ?_ (Below.mono (by assumption) ?_))))) <;> (try simp) <;> (try omega)))
        have hs4 : w4.heap.size = w3.heap.size + 2 := by (rw [hw4]; simp)
        have hy4 : w4.heap[w3.heap.size]? = some (.cells #[.int .u64 y.1.fr, .int .u64 y.1.to, .int .u8 y.1.prot, .int .i64 y.1.ino, .int .u64 y.1.off] 25 (0, 0)) := by (rw [hw4]; exact (Below.heap_alloc _ _ _ (by simp)).trans (heap_alloc_new _ _))
        have hr4 : w4.heap[w3.heap.size + 1]? = some (.cells #[.int .u64 r.fr, .int .u64 r.to, .int .u8 r.prot, .int .i64 r.ino, .int .u64 r.off] 25 (0, 0)) := by (rw [hw4]; have h9 := heap_alloc_new (w3.alloc (.cells #[.int .u64 y.1.fr, .int .u64 y.1.to, .int .u8 y.1.prot, .int .i64 y.1.ino, .int .u64 y.1.off] 25)) (.cells #[.int .u64 r.fr, .int .u64 r.to, .int .u8 r.prot, .int .i64 r.ino, .int .u64 r.off] 25); simpa using h9)
        have hs4' : w3.heap.size + 1 < w4.heap.size := by omega
        clear hw4 hs4
        refine (at_any (some ⟨w3.heap.size + 1, 0, none⟩) 1 1 a w4 [r] (rsl_one hr4 (by omega) (by omega))).mono ?_
        rintro e w5 ⟨rfl, hb5⟩
        have hz5 := hb5.size
        rw [← HY.out]
        have hx5 := (hb5.block _ (by omega)).trans ((hB4.block _ hlt3).trans HX3.out)
        have hbx5 := (hb5.block _ (by omega)).trans ((hB4.block _ hlt4).trans HBX3.out)
        have hy5 := (hb5.block _ (by omega)).trans hy4
        clear e1 e2 e3 e4 e5 e6 d0 d1 d2 d3 d4 hy4 hr4
        have e1 := one_block hx5 0
        have e2 := one_block hx5 1
        have e3 := one_block hx5 2
        simp at e1 e2 e3
        obtain ⟨⟨x0, x1, x2, x3, x4⟩, z0, z1, z2, z3, z4⟩ := box_all hbx5
        obtain ⟨y0, y1, y2, y3, y4⟩ := box_facts hy5
        have n1 : ¬ w1.heap.size = w3.heap.size := by omega
        have n2 : ¬ w3.heap.size = w1.heap.size := by omega
        have n3 : ¬ w.heap.size = w1.heap.size := by omega
        have n4 : ¬ w1.heap.size = w.heap.size := by omega
        have n5 : w.heap.size < w5.heap.size := by omega
        have n6 : w1.heap.size < w5.heap.size := by omega
        have n7 : w3.heap.size < w5.heap.size := by omega
        have hre : regEq ⟨y.1.fr, y.1.to, y.1.prot, y.1.ino, y.1.off⟩ ⟨y.1.fr, y.1.to, y.1.prot, y.1.ino, y.1.off⟩ = true := by simp [regEq]
        have hB5 : Below w0.heap.size w0 w5 := hB.trans ((((hb2.trans (hb3.mono (by omega))).trans (hB4.mono (by omega))).trans (hb5.mono (by omega))).mono (by omega))
        have n8 : w0.heap.size ≤ w1.heap.size := by omega
        clear hx5 hbx5 hy5
        go_wp2_with fail
        go_roundw
        case rel => exact ⟨j + 1, by omega, by go_num, by ((repeat' (with_reducible (first | assumption | (refine Below.alloc ?_ ?_ _) | (refine Below.setCell ?_ ?_ _) | (refine Below.drew ?_) | (refine below_drewN ?_ _) | exact Below.refl _ _ | (refine Below.trans ?_ (Below.mono (by assumption) ?_))))) <;> (try simp) <;> (try omega))⟩
        case measure => (simp [intOf]; omega)
      · have hy : Rg.after 1 r l a = x := by unfold Rg.after; rw [if_neg hin]; exact HX.out.symm
        rw [hy]
        have hre : regEq ⟨x.1.fr, x.1.to, x.1.prot, x.1.ino, x.1.off⟩ ⟨x.1.fr, x.1.to, x.1.prot, x.1.ino, x.1.off⟩ = true := by simp [regEq]
        clear hy
        have hB5 : Below w0.heap.size w0 w3 := hB.trans ((hb2.trans (hb3.mono (by omega))).mono (by omega))
        by_cases ha1 : r.fr ≤ a
        · have ha2 : ¬ a < r.to := fun h => hin ⟨ha1, h⟩
          clear hin
          go_wp2_with fail
          all_goals
            go_roundw
            case rel => exact ⟨j + 1, by omega, by go_num, by ((repeat' (with_reducible (first | assumption | (refine Below.alloc ?_ ?_ _) | (refine Below.setCell ?_ ?_ _) | (refine Below.drew ?_) | (refine below_drewN ?_ _) | exact Below.refl _ _ | (refine Below.trans ?_ (Below.mono (by assumption) ?_))))) <;> (try simp) <;> (try omega))⟩
            case measure => simp [intOf]; omega
        · clear hin
          go_wp2_with fail
          all_goals
            go_roundw
            case rel => exact ⟨j + 1, by omega, by go_num, by ((repeat' (with_reducible (first | assumption | (refine Below.alloc ?_ ?_ _) | (refine Below.setCell ?_ ?_ _) | (refine Below.drew ?_) | (refine below_drewN ?_ _) | exact Below.refl _ _ | (refine Below.trans ?_ (Below.mono (by assumption) ?_))))) <;> (try simp) <;> (try omega))⟩
            case measure => simp [intOf]; omega
    · go_wp2_with fail
      go_ret
      exact ⟨rfl, hB0.trans (hB.mono (by omega))⟩


set_option maxRecDepth 100000 in
set_option maxHeartbeats 4000000 in
theorem fits_2 (A B T : Option Addr) (n m nt c1 c2 ct base : Nat) (r : Reg) (w : World) (l k : List Reg) (ts : List Int) (hl : RSl w w.heap.size A n c1 l) (hk : RSl w w.heap.size B m c2 k)
    (ho : OwnU w base T ct ts) (hnt : ts.length = nt) (hts : nt ≤ 10000) (hsame : ∀ a, Rg.atf k a = Rg.after 2 r l a) :
    Calls Try.prog 29 #[.slice A n c1, .slice B m c2, .agg #[.int .i64 2, .int .u64 r.fr, .int .u64 r.to, .int .u8 r.prot, .int .i64 r.ino, .int .u64 r.off], .slice T nt ct] w
      fun e w' => e = .returned (.bool true) ∧ Below w.heap.size w w' := by
  have HNT := Lib.hid hnt
  clear hnt
  have HS := Lib.hid hsame
  clear hsame
  
  go_enter Try.func29, Try.ntmps29
  go_upto_region 1 with (fail)
  generalize hw0 : w.alloc (.cells #[.int .i64 2, .int .u64 r.fr, .int .u64 r.to, .int .u8 r.prot, .int .i64 r.ino, .int .u64 r.off] 50) = w0 at *
  have hs0 : w0.heap.size = w.heap.size + 1 := by rw [← hw0]; simp
  have HS0 := Lib.hid hs0
  have hs0' : w.heap.size < w0.heap.size := by omega
  have hB0 : Below w.heap.size w w0 := by rw [← hw0]; ((repeat' (with_reducible (first | assumption | (refine Below.alloc ?_ ?_ _) | (refine Below.setCell ?_ ?_ _) | (refine Below.drew ?_) | (refine below_drewN ?_ _) | exact Below.refl _ _ | (refine Below.trans ?_ (Below.mono (by assumption) ?_))))) <;> (try simp) <;> (try omega))
  have hx0 : w0.heap[w.heap.size]? = some (.cells #[.int .i64 2, .int .u64 r.fr, .int .u64 r.to, .int .u8 r.prot, .int .i64 r.ino, .int .u64 r.off] 50 (0, 0)) := by rw [← hw0]; exact heap_alloc_new w _
  have ho0 := ho.below hB0 (Nat.le_refl _)
  have hl0 := hl.below hB0 (Nat.le_refl _)
  have hk0 := hk.below hB0 (Nat.le_refl _)
  clear hw0 hs0 hl hk ho
  go_wp2_with fail
  go_loopw [9] (fun i wr => ∃ j : Nat, j ≤ nt ∧ i = .int .i64 j ∧ Below w0.heap.size w0 wr) (fun i _ => nt - (intOf i).toNat)
  case atStart => exact ⟨0, Nat.zero_le _, rfl, Below.refl _ _⟩
  case round =>
    obtain ⟨j, hj, rfl, hB⟩ := hrel
    have hBs := hB.size
    by_cases hlt : j < nt
    · obtain ⟨a, ha⟩ : ∃ a, ts[j]? = some a := ⟨_, List.getElem?_eq_getElem (by rw [HNT.out]; omega)⟩
      have hour := ho0.below hB (Nat.le_refl _)
      obtain ⟨g, rfl, hg1, hg2, hg3⟩ := hour.form.resolve_left (fun h => by have := h.2.1; rw [this] at ha; simp at ha)
      have he := hour.elem ha
      have hx := (hB.block _ hs0').trans hx0
      have hlr := hl0.below hB (Nat.le_of_lt hs0')
      have hkr := hk0.below hB (Nat.le_of_lt hs0')
      have HA := Lib.hid ha
      have HOU := Lib.hid hour
      have hlr' := hlr.more (B' := wr.heap.size) (by omega)
      clear ha hour
      go_wp2_with fail
      refine (at_any A n c1 a _ l hlr').mono ?_
      rintro e w1 ⟨rfl, hb1⟩
      have hz1 := hb1.size
      have hx1 := (hb1.block _ (by omega)).trans hx
      have hkr1 := hkr.below hb1 (by omega)
      obtain ⟨x, hX⟩ : ∃ x, x = Rg.atf l a := ⟨_, rfl⟩
      rw [← hX]
      have HX := Lib.hid hX
      clear hX he hx hlr hkr hlr'
      go_wp2_with fail
      have hbx := heap_alloc_new w1 (.cells #[.int .u64 x.1.fr, .int .u64 x.1.to, .int .u8 x.1.prot, .int .i64 x.1.ino, .int .u64 x.1.off] 25)
      have hkr2 := (hkr1.below (Below.alloc (Below.refl w1.heap.size w1) (Nat.le_refl _) (.cells #[.int .u64 x.1.fr, .int .u64 x.1.to, .int .u8 x.1.prot, .int .i64 x.1.ino, .int .u64 x.1.off] 25)) (by omega)).more (B' := w1.heap.size + 1) (by omega)
      have hx2 := (Below.heap_alloc w1 (.cells #[.int .u64 x.1.fr, .int .u64 x.1.to, .int .u8 x.1.prot, .int .i64 x.1.ino, .int .u64 x.1.off] 25) _ (by omega)).trans hx1
      have hb2 : Below wr.heap.size wr (w1.alloc (.cells #[.int .u64 x.1.fr, .int .u64 x.1.to, .int .u8 x.1.prot, .int .i64 x.1.ino, .int .u64 x.1.off] 25)) := hb1.alloc hz1 _
      have hs2 : (w1.alloc (.cells #[.int .u64 x.1.fr, .int .u64 x.1.to, .int .u8 x.1.prot, .int .i64 x.1.ino, .int .u64 x.1.off] 25)).heap.size = w1.heap.size + 1 := by simp
      generalize hw2 : w1.alloc (.cells #[.int .u64 x.1.fr, .int .u64 x.1.to, .int .u8 x.1.prot, .int .i64 x.1.ino, .int .u64 x.1.off] 25) = w2 at *
      rw [← hs2] at hkr2
      have hs2' : w1.heap.size < w2.heap.size := by omega
      clear hw2 hs2
      refine (at_any B m c2 a _ k hkr2).mono ?_
      rintro e w3 ⟨rfl, hb3⟩
      have hz3 := hb3.size
      have hx3 := (hb3.block _ (by omega)).trans hx2
      have hbx3 := (hb3.block _ (by omega)).trans hbx
      rw [HS.out a]
      have e1 := one_block hx3 0
      have e2 := one_block hx3 1
      have e3 := one_block hx3 2
      have e4 := one_block hx3 3
      have e5 := one_block hx3 4
      have e6 := one_block hx3 5
      simp at e1 e2 e3 e4 e5 e6
      have hlt3 : w.heap.size < w3.heap.size := by omega
      have hlt4 : w1.heap.size < w3.heap.size := by omega
      obtain ⟨d0, d1, d2, d3, d4⟩ := box_facts hbx3
      have hneq := run_neq_reg
      have HX3 := Lib.hid hx3
      have HBX3 := Lib.hid hbx3
      clear hx1 hx2 hx3 hbx hbx3
      by_cases hin : r.fr ≤ a ∧ a < r.to
      · have HI := Lib.hid hin
        obtain ⟨ha1, ha2⟩ := hin
        have hy : Rg.after 2 r l a = (zeroReg, false) := by (unfold Rg.after; rw [if_pos HI.out, if_neg (by decide), if_pos rfl])
        rw [hy]
        obtain ⟨y, hY⟩ : ∃ y, y = (zeroReg, false) := ⟨_, rfl⟩
        rw [← hY]
        have hre : regEq ⟨0, 0, 0, 0, 0⟩ ⟨y.1.fr, y.1.to, y.1.prot, y.1.ino, y.1.off⟩ = true := by (rw [hY]; simp [regEq, zeroReg])
        have hy2 : y.2 = false := by rw [hY]
        clear hY hy d0 d1 d2 d3 d4
        obtain ⟨⟨x0, x1, x2, x3, x4⟩, z0, z1, z2, z3, z4⟩ := box_all HBX3.out
        have n1 : ¬ w1.heap.size = w3.heap.size := by omega
        have n2 : ¬ w3.heap.size = w1.heap.size := by omega
        have n3 : ¬ w.heap.size = w1.heap.size := by omega
        have n4 : ¬ w1.heap.size = w.heap.size := by omega
        have n5 : ¬ w.heap.size = w3.heap.size := by omega
        have n6 : ¬ w3.heap.size = w.heap.size := by omega
        have hB5 : Below w0.heap.size w0 w3 := hB.trans ((hb2.trans (hb3.mono (by omega))).mono (by omega))
        have n8 : w0.heap.size ≤ w1.heap.size := by omega
        have n9 : w0.heap.size ≤ w3.heap.size := by omega
        go_wp2_with fail
        go_roundw
        case rel => exact ⟨j + 1, by omega, by go_num, by ((repeat' (with_reducible (first | assumption | (refine Below.alloc ?_ ?_ _) | (refine Below.setCell ?_ ?_ _) | (refine Below.drew ?_) | (refine below_drewN ?_ _) | exact Below.refl _ _ | (refine Below.trans ?_ (Below.mono (by assumption) ?_))))) <;> (try simp) <;> (try omega))⟩
        case measure => (simp [intOf]; omega)
      · have hy : Rg.after 2 r l a = x := by unfold Rg.after; rw [if_neg hin]; exact HX.out.symm
        rw [hy]
        have hre : regEq ⟨x.1.fr, x.1.to, x.1.prot, x.1.ino, x.1.off⟩ ⟨x.1.fr, x.1.to, x.1.prot, x.1.ino, x.1.off⟩ = true := by simp [regEq]
        clear hy
        have hB5 : Below w0.heap.size w0 w3 := hB.trans ((hb2.trans (hb3.mono (by omega))).mono (by omega))
        by_cases ha1 : r.fr ≤ a
        · have ha2 : ¬ a < r.to := fun h => hin ⟨ha1, h⟩
          clear hin
          go_wp2_with fail
          all_goals
            go_roundw
            case rel => exact ⟨j + 1, by omega, by go_num, by ((repeat' (with_reducible (first | assumption | (refine Below.alloc ?_ ?_ _) | (refine Below.setCell ?_ ?_ _) | (refine Below.drew ?_) | (refine below_drewN ?_ _) | exact Below.refl _ _ | (refine Below.trans ?_ (Below.mono (by assumption) ?_))))) <;> (try simp) <;> (try omega))⟩
            case measure => simp [intOf]; omega
        · clear hin
          go_wp2_with fail
          all_goals
            go_roundw
            case rel => exact ⟨j + 1, by omega, by go_num, by ((repeat' (with_reducible (first | assumption | (refine Below.alloc ?_ ?_ _) | (refine Below.setCell ?_ ?_ _) | (refine Below.drew ?_) | (refine below_drewN ?_ _) | exact Below.refl _ _ | (refine Below.trans ?_ (Below.mono (by assumption) ?_))))) <;> (try simp) <;> (try omega))⟩
            case measure => simp [intOf]; omega
    · go_wp2_with fail
      go_ret
      exact ⟨rfl, hB0.trans (hB.mono (by omega))⟩


set_option maxRecDepth 100000 in
set_option maxHeartbeats 4000000 in
theorem fits_3 (A B T : Option Addr) (n m nt c1 c2 ct base : Nat) (r : Reg) (w : World) (l k : List Reg) (ts : List Int) (hl : RSl w w.heap.size A n c1 l) (hk : RSl w w.heap.size B m c2 k)
    (ho : OwnU w base T ct ts) (hnt : ts.length = nt) (hts : nt ≤ 10000) (hsame : ∀ a, Rg.atf k a = Rg.after 3 r l a)(hhad : ∀ a, r.fr ≤ a → a < r.to → (Rg.atf l a).2 = true) :
    Calls Try.prog 29 #[.slice A n c1, .slice B m c2, .agg #[.int .i64 3, .int .u64 r.fr, .int .u64 r.to, .int .u8 r.prot, .int .i64 r.ino, .int .u64 r.off], .slice T nt ct] w
      fun e w' => e = .returned (.bool true) ∧ Below w.heap.size w w' := by
  have HNT := Lib.hid hnt
  clear hnt
  have HS := Lib.hid hsame
  clear hsame
  have HH := Lib.hid hhad
  clear hhad
  go_enter Try.func29, Try.ntmps29
  go_upto_region 1 with (fail)
  generalize hw0 : w.alloc (.cells #[.int .i64 3, .int .u64 r.fr, .int .u64 r.to, .int .u8 r.prot, .int .i64 r.ino, .int .u64 r.off] 50) = w0 at *
  have hs0 : w0.heap.size = w.heap.size + 1 := by rw [← hw0]; simp
  have HS0 := Lib.hid hs0
  have hs0' : w.heap.size < w0.heap.size := by omega
  have hB0 : Below w.heap.size w w0 := by rw [← hw0]; ((repeat' (with_reducible (first | assumption | (refine Below.alloc ?_ ?_ _) | (refine Below.setCell ?_ ?_ _) | (refine Below.drew ?_) | (refine below_drewN ?_ _) | exact Below.refl _ _ | (refine Below.trans ?_ (Below.mono (by assumption) ?_))))) <;> (try simp) <;> (try omega))
  have hx0 : w0.heap[w.heap.size]? = some (.cells #[.int .i64 3, .int .u64 r.fr, .int .u64 r.to, .int .u8 r.prot, .int .i64 r.ino, .int .u64 r.off] 50 (0, 0)) := by rw [← hw0]; exact heap_alloc_new w _
  have ho0 := ho.below hB0 (Nat.le_refl _)
  have hl0 := hl.below hB0 (Nat.le_refl _)
  have hk0 := hk.below hB0 (Nat.le_refl _)
  clear hw0 hs0 hl hk ho
  go_wp2_with fail
  go_loopw [9] (fun i wr => ∃ j : Nat, j ≤ nt ∧ i = .int .i64 j ∧ Below w0.heap.size w0 wr) (fun i _ => nt - (intOf i).toNat)
  case atStart => exact ⟨0, Nat.zero_le _, rfl, Below.refl _ _⟩
  case round =>
    obtain ⟨j, hj, rfl, hB⟩ := hrel
    have hBs := hB.size
    by_cases hlt : j < nt
    · obtain ⟨a, ha⟩ : ∃ a, ts[j]? = some a := ⟨_, List.getElem?_eq_getElem (by rw [HNT.out]; omega)⟩
      have hour := ho0.below hB (Nat.le_refl _)
      obtain ⟨g, rfl, hg1, hg2, hg3⟩ := hour.form.resolve_left (fun h => by have := h.2.1; rw [this] at ha; simp at ha)
      have he := hour.elem ha
      have hx := (hB.block _ hs0').trans hx0
      have hlr := hl0.below hB (Nat.le_of_lt hs0')
      have hkr := hk0.below hB (Nat.le_of_lt hs0')
      have HA := Lib.hid ha
      have HOU := Lib.hid hour
      have hlr' := hlr.more (B' := wr.heap.size) (by omega)
      clear ha hour
      go_wp2_with fail
      refine (at_any A n c1 a _ l hlr').mono ?_
      rintro e w1 ⟨rfl, hb1⟩
      have hz1 := hb1.size
      have hx1 := (hb1.block _ (by omega)).trans hx
      have hkr1 := hkr.below hb1 (by omega)
      obtain ⟨x, hX⟩ : ∃ x, x = Rg.atf l a := ⟨_, rfl⟩
      rw [← hX]
      have HX := Lib.hid hX
      clear hX he hx hlr hkr hlr'
      go_wp2_with fail
      have hbx := heap_alloc_new w1 (.cells #[.int .u64 x.1.fr, .int .u64 x.1.to, .int .u8 x.1.prot, .int .i64 x.1.ino, .int .u64 x.1.off] 25)
      have hkr2 := (hkr1.below (Below.alloc (Below.refl w1.heap.size w1) (Nat.le_refl _) (.cells #[.int .u64 x.1.fr, .int .u64 x.1.to, .int .u8 x.1.prot, .int .i64 x.1.ino, .int .u64 x.1.off] 25)) (by omega)).more (B' := w1.heap.size + 1) (by omega)
      have hx2 := (Below.heap_alloc w1 (.cells #[.int .u64 x.1.fr, .int .u64 x.1.to, .int .u8 x.1.prot, .int .i64 x.1.ino, .int .u64 x.1.off] 25) _ (by omega)).trans hx1
      have hb2 : Below wr.heap.size wr (w1.alloc (.cells #[.int .u64 x.1.fr, .int .u64 x.1.to, .int .u8 x.1.prot, .int .i64 x.1.ino, .int .u64 x.1.off] 25)) := hb1.alloc hz1 _
      have hs2 : (w1.alloc (.cells #[.int .u64 x.1.fr, .int .u64 x.1.to, .int .u8 x.1.prot, .int .i64 x.1.ino, .int .u64 x.1.off] 25)).heap.size = w1.heap.size + 1 := by simp
      generalize hw2 : w1.alloc (.cells #[.int .u64 x.1.fr, .int .u64 x.1.to, .int .u8 x.1.prot, .int .i64 x.1.ino, .int .u64 x.1.off] 25) = w2 at *
      rw [← hs2] at hkr2
      have hs2' : w1.heap.size < w2.heap.size := by omega
      clear hw2 hs2
      refine (at_any B m c2 a _ k hkr2).mono ?_
      rintro e w3 ⟨rfl, hb3⟩
      have hz3 := hb3.size
      have hx3 := (hb3.block _ (by omega)).trans hx2
      have hbx3 := (hb3.block _ (by omega)).trans hbx
      rw [HS.out a]
      have e1 := one_block hx3 0
      have e2 := one_block hx3 1
      have e3 := one_block hx3 2
      have e4 := one_block hx3 3
      have e5 := one_block hx3 4
      have e6 := one_block hx3 5
      simp at e1 e2 e3 e4 e5 e6
      have hlt3 : w.heap.size < w3.heap.size := by omega
      have hlt4 : w1.heap.size < w3.heap.size := by omega
      obtain ⟨d0, d1, d2, d3, d4⟩ := box_facts hbx3
      have hneq := run_neq_reg
      have HX3 := Lib.hid hx3
      have HBX3 := Lib.hid hbx3
      clear hx1 hx2 hx3 hbx hbx3
      by_cases hin : r.fr ≤ a ∧ a < r.to
      · have HI := Lib.hid hin
        obtain ⟨ha1, ha2⟩ := hin
        have hx2 : x.2 = true := by (rw [HX.out]; exact HH.out a ha1 ha2)
        have hy : Rg.after 3 r l a = (x.1.withProt r.prot, x.2) := by (unfold Rg.after; rw [if_pos HI.out, if_neg (by decide), if_neg (by decide), HX.out])
        rw [hy]
        obtain ⟨y, hY⟩ : ∃ y, y = (x.1.withProt r.prot, x.2) := ⟨_, rfl⟩
        rw [← hY]
        have hre : regEq ⟨x.1.fr, x.1.to, r.prot, x.1.ino, x.1.off⟩ ⟨y.1.fr, y.1.to, y.1.prot, y.1.ino, y.1.off⟩ = true := by (rw [hY]; simp [regEq, Reg.withProt])
        have hy2 : y.2 = true := by (rw [hY]; exact hx2)
        clear hY hy d0 d1 d2 d3 d4
        obtain ⟨⟨x0, x1, x2, x3, x4⟩, z0, z1, z2, z3, z4⟩ := box_all HBX3.out
        have n1 : ¬ w1.heap.size = w3.heap.size := by omega
        have n2 : ¬ w3.heap.size = w1.heap.size := by omega
        have n3 : ¬ w.heap.size = w1.heap.size := by omega
        have n4 : ¬ w1.heap.size = w.heap.size := by omega
        have n5 : ¬ w.heap.size = w3.heap.size := by omega
        have n6 : ¬ w3.heap.size = w.heap.size := by omega
        have hB5 : Below w0.heap.size w0 w3 := hB.trans ((hb2.trans (hb3.mono (by omega))).mono (by omega))
        have n8 : w0.heap.size ≤ w1.heap.size := by omega
        have n9 : w0.heap.size ≤ w3.heap.size := by omega
        go_wp2_with fail
        go_roundw
        case rel => exact ⟨j + 1, by omega, by go_num, by ((repeat' (with_reducible (first | assumption | (refine Below.alloc ?_ ?_ _) | (refine Below.setCell ?_ ?_ _) | (refine Below.drew ?_) | (refine below_drewN ?_ _) | exact Below.refl _ _ | (refine Below.trans ?_ (Below.mono (by assumption) ?_))))) <;> (try simp) <;> (try omega))⟩
        case measure => (simp [intOf]; omega)
      · have hy : Rg.after 3 r l a = x := by unfold Rg.after; rw [if_neg hin]; exact HX.out.symm
        rw [hy]
        have hre : regEq ⟨x.1.fr, x.1.to, x.1.prot, x.1.ino, x.1.off⟩ ⟨x.1.fr, x.1.to, x.1.prot, x.1.ino, x.1.off⟩ = true := by simp [regEq]
        clear hy
        have hB5 : Below w0.heap.size w0 w3 := hB.trans ((hb2.trans (hb3.mono (by omega))).mono (by omega))
        by_cases ha1 : r.fr ≤ a
        · have ha2 : ¬ a < r.to := fun h => hin ⟨ha1, h⟩
          clear hin
          go_wp2_with fail
          all_goals
            go_roundw
            case rel => exact ⟨j + 1, by omega, by go_num, by ((repeat' (with_reducible (first | assumption | (refine Below.alloc ?_ ?_ _) | (refine Below.setCell ?_ ?_ _) | (refine Below.drew ?_) | (refine below_drewN ?_ _) | exact Below.refl _ _ | (refine Below.trans ?_ (Below.mono (by assumption) ?_))))) <;> (try simp) <;> (try omega))⟩
            case measure => simp [intOf]; omega
        · clear hin
          go_wp2_with fail
          all_goals
            go_roundw
            case rel => exact ⟨j + 1, by omega, by go_num, by ((repeat' (with_reducible (first | assumption | (refine Below.alloc ?_ ?_ _) | (refine Below.setCell ?_ ?_ _) | (refine Below.drew ?_) | (refine below_drewN ?_ _) | exact Below.refl _ _ | (refine Below.trans ?_ (Below.mono (by assumption) ?_))))) <;> (try simp) <;> (try omega))⟩
            case measure => simp [intOf]; omega
    · go_wp2_with fail
      go_ret
      exact ⟨rfl, hB0.trans (hB.mono (by omega))⟩


end Go.Proofs.Ytdkhgofnhemhmaa
