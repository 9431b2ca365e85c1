/- Regions: the walk of the statement RegionsFollow. -/
import Derived.Test.YtdkhgofnhemhmaaFolF
import Derived.Test.YtdkhgofnhemhmaaFolE
import Derived.Test.YtdkhgofnhemhmaaCutC
import Derived.Test.YtdkhgofnhemhmaaRegP
import Derived.Deep.RegionHeld3
namespace Go.Proofs.Ytdkhgofnhemhmaa
open Go.RowKit Go.Sort
set_option linter.unusedSimpArgs false
set_option linter.unusedVariables false

/-- What a change comes to. -/
structure Turned (d : Int) (r : Reg) (l : List Reg) (x : List Reg × Int) : Prop where
  none : x.2 ≠ 0 → x.1 = []
  some : x.2 = 0 → Rg.right x.1 = true ∧ AllOk x.1 ∧ (∀ a, Rg.atf x.1 a = Rg.after d r l a) ∧ (d = 3 → ∀ a, r.fr ≤ a → a < r.to → (Rg.atf l a).2 = true)
  short : x.1.length ≤ 100

theorem atf_of_ats {l k : List Reg} {a : Int} (h : Rg.ats l a = Rg.ats k a) : Rg.atf l a = Rg.atf k a := by
  rw [atf_ats (k := []) (b := 0), atf_ats (k := []) (b := 0), h]
theorem turned_put {r : Reg} {l : List Reg} (hok : AllOk l) (hr : r.Ok) : Turned 1 r l (Rg.put l r) := by
  refine ⟨put_err, fun h => ?_, ?_⟩
  · obtain ⟨h1, h2, h3⟩ := put_fits (out := (Rg.put l r).1) hok hr (by rw [← h])
    refine ⟨h1, h2, fun a => ?_, fun h => by omega⟩
    unfold Rg.after
    split
    · rename_i hin
      rw [if_pos rfl]
      exact atf_of_ats (by rw [h3 a, if_pos hin])
    · rename_i hin
      exact atf_of_ats (by rw [h3 a, if_neg hin])
  · unfold Rg.put Rg.few
    (repeat' split) <;> (try simp) <;> (try omega)
theorem turned_cut {r : Reg} {l : List Reg} (hok : AllOk l) : Turned 2 r l (Rg.cut l r.fr r.to) := by
  refine ⟨cut_err, fun h => ?_, ?_⟩
  · obtain ⟨h1, h2, h3⟩ := cut_fits (out := (Rg.cut l r.fr r.to).1) hok (by rw [← h])
    refine ⟨h1, h2, fun a => ?_, fun h => by omega⟩
    unfold Rg.after
    split
    · rename_i hin
      rw [if_neg (by decide), if_pos rfl]
      rw [atf_ats (k := []) (b := 0), h3 a, if_pos hin]
    · rename_i hin
      exact atf_of_ats (by rw [h3 a, if_neg hin])
  · unfold Rg.cut Rg.few
    (repeat' split) <;> (try simp) <;> (try omega)
theorem turned_protect {r : Reg} {l : List Reg} (hok : AllOk l) (hr : r.Ok) : Turned 3 r l (Rg.protect l r.fr r.to r.prot) := by
  refine ⟨protect_err, fun h => ?_, ?_⟩
  · obtain ⟨h1, h2, h3, h4⟩ := protect_fits (out := (Rg.protect l r.fr r.to r.prot).1) hok hr.prot0 (by rw [← h])
    have h4' : ∀ a, r.fr ≤ a → a < r.to → (Rg.atf l a).2 = true := fun a ha hb => by
      have := h4 a ha hb
      rw [atf_ats (k := []) (b := 0)]
      cases hl : Rg.ats l a with
      | nil => exact absurd hl this
      | cons x t => rfl
    refine ⟨h1, h2, fun a => ?_, fun _ => h4'⟩
    unfold Rg.after
    split
    · rename_i hin
      rw [if_neg (by decide), if_neg (by decide)]
      rw [atf_ats (k := []) (b := 0), atf_ats (l := l) (k := []) (b := 0), h3 a, if_pos hin]
      have := h4 a hin.1 hin.2
      cases hl : Rg.ats l a with
      | nil => exact absurd hl this
      | cons x t => rfl
    · rename_i hin
      exact atf_of_ats (by rw [h3 a, if_neg hin])
  · unfold Rg.protect Rg.few
    (repeat' split) <;> (try simp) <;> (try omega)

theorem keep11 {w w' : World} {b o c : Nat} {v0 v1 v2 v3 v4 v5 u0 u1 u2 u3 u4 : Value} (hb : Below w.heap.size w w')
    (h : w.cell? ⟨b, o, none⟩ = some v0 ∧ w.cell? ⟨b, o + 1, none⟩ = some v1 ∧ w.cell? ⟨b, o + 2, none⟩ = some v2 ∧ w.cell? ⟨b, o + 3, none⟩ = some v3 ∧ w.cell? ⟨b, o + 4, none⟩ = some v4 ∧ w.cell? ⟨b, o + 5, none⟩ = some v5 ∧
      w.cell? ⟨c, 0, none⟩ = some u0 ∧ w.cell? ⟨c, 1, none⟩ = some u1 ∧ w.cell? ⟨c, 2, none⟩ = some u2 ∧ w.cell? ⟨c, 3, none⟩ = some u3 ∧ w.cell? ⟨c, 4, none⟩ = some u4 ∧ b < w.heap.size ∧ c < w.heap.size) :
    w'.cell? ⟨b, o, none⟩ = some v0 ∧ w'.cell? ⟨b, o + 1, none⟩ = some v1 ∧ w'.cell? ⟨b, o + 2, none⟩ = some v2 ∧ w'.cell? ⟨b, o + 3, none⟩ = some v3 ∧ w'.cell? ⟨b, o + 4, none⟩ = some v4 ∧ w'.cell? ⟨b, o + 5, none⟩ = some v5 ∧
      w'.cell? ⟨c, 0, none⟩ = some u0 ∧ w'.cell? ⟨c, 1, none⟩ = some u1 ∧ w'.cell? ⟨c, 2, none⟩ = some u2 ∧ w'.cell? ⟨c, 3, none⟩ = some u3 ∧ w'.cell? ⟨c, 4, none⟩ = some u4 ∧ b < w'.heap.size ∧ c < w'.heap.size := by
  obtain ⟨h0, h1, h2, h3, h4, h5, g0, g1, g2, g3, g4, hb1, hb2⟩ := h
  have hz := hb.size
  have k1 : ∀ o, w'.cell? ⟨b, o, none⟩ = w.cell? ⟨b, o, none⟩ := fun o => hb.cell (p := ⟨b, o, none⟩) hb1
  have k2 : ∀ o, w'.cell? ⟨c, o, none⟩ = w.cell? ⟨c, o, none⟩ := fun o => hb.cell (p := ⟨c, o, none⟩) hb2
  exact ⟨(k1 _).trans h0, (k1 _).trans h1, (k1 _).trans h2, (k1 _).trans h3, (k1 _).trans h4, (k1 _).trans h5, (k2 _).trans g0, (k2 _).trans g1, (k2 _).trans g2, (k2 _).trans g3, (k2 _).trans g4, by omega, by omega⟩

set_option maxRecDepth 100000 in
set_option maxHeartbeats 20000000 in
theorem lawFollow (A : Option Addr) (n cap : Nat) (w : World) (h : ArgC w A n cap) :
    Calls Try.prog 8 #[.slice A n cap] w fun e w' => e = .returned (.bool true) ∧ Below w.heap.size w w' := by
  obtain ⟨hn, hat⟩ := h
  have HAT := Lib.hid hat
  clear hat
  go_enter Try.func8, Try.ntmps8
  go_wp2_with fail
  go_loopw [3, 4] (fun v i wr => ∃ k : Nat, k ≤ n ∧ i = .int .i64 k ∧ Below w.heap.size w wr ∧ ∃ A1 c1 l, v = .slice A1 (List.length l) c1 ∧ OwnR wr w.heap.size A1 c1 l ∧ AllOk l ∧ l.length ≤ 100) (fun _ i _ => n - (intOf i).toNat)
  case atStart => exact ⟨0, Nat.zero_le _, rfl, Below.refl _ _, none, 0, [], rfl, OwnR.nil _ _, fun x hx => by simp at hx, by simp⟩
  case round =>
    obtain ⟨k, hk, rfl, hB, A1, c1, l, rfl, ho, hok, hl1⟩ := hrel
    have hBs := hB.size
    by_cases hlt : k < n ∧ k < 30
    · obtain ⟨hlt1, hlt2⟩ := hlt
      obtain ⟨b, off, d, r, hro, rfl, hb, hch⟩ := HAT.out k hlt1
      obtain ⟨e0, e1, e2, e3, e4, e5⟩ := hch.below hB hb
      have HCH := Lib.hid (hch.below hB hb)
      have hrs := ho.rsl (by omega)
      have hb9 : b < wr.heap.size := by omega
      have HO := Lib.hid ho
      have i0 : (0 : Int) ≤ (k : Int) := by omega
      have i1 : (k : Int) < (n : Int) := by omega
      have hB0 : Below wr.heap.size wr (wr.alloc (.cells #[.int .u64 r.fr, .int .u64 r.to, .int .u8 r.prot, .int .i64 r.ino, .int .u64 r.off] 25)) := by ((repeat' (with_reducible (first | assumption | (refine Below.alloc ?_ ?_ _) | (refine Below.setCell ?_ ?_ _) | (refine Below.drew ?_) | (refine below_drewN ?_ _) | exact Below.refl _ _ | (refine Below.trans ?_ (Below.mono (by assumption) ?_))))) <;> (try simp) <;> (try omega))
      have hrs0 := (hrs.below hB0 (Nat.le_refl _)).more (B' := (wr.alloc (.cells #[.int .u64 r.fr, .int .u64 r.to, .int .u8 r.prot, .int .i64 r.ino, .int .u64 r.off] 25)).heap.size) (by simp)
      have hx0 := heap_alloc_new wr (.cells #[.int .u64 r.fr, .int .u64 r.to, .int .u8 r.prot, .int .i64 r.ino, .int .u64 r.off] 25)
      have hs0 : wr.heap.size < (wr.alloc (.cells #[.int .u64 r.fr, .int .u64 r.to, .int .u8 r.prot, .int .i64 r.ino, .int .u64 r.off] 25)).heap.size := by simp
      by_cases hd1 : d = 1
      · subst hd1
        go_wp2_with fail
        generalize hw0 : wr.alloc (.cells #[.int .u64 r.fr, .int .u64 r.to, .int .u8 r.prot, .int .i64 r.ino, .int .u64 r.off] 25) = w0 at *
        clear hw0 e0 e1 e2 e3 e4 e5 hch
        refine (put_any r A1 l.length c1 _ l hrs0 hok hro).mono ?_
        rintro ee w2 ⟨A2, c2, rfl, ho2, hb2⟩
        have hT : Turned 1 r l (Rg.put l r) := turned_put hok hro
        generalize hX : Rg.put l r = x at *
        clear hX
        obtain ⟨out, code⟩ := x
        simp only at ho2
        have hz2 := hb2.size
        have hx2 := (hb2.block _ hs0).trans hx0
        have hB2 : Below w.heap.size w w2 := hB.trans ((hB0.trans (hb2.mono (by omega))).mono hBs)
        have hch2 := HCH.out.below (hB0.trans (hb2.mono (by omega))) hb9
        have hrs2 := hrs0.below hb2 (Nat.le_refl _)
        by_cases hcode : code = 0
        · obtain ⟨t1, t2, t3, t4⟩ := hT.some hcode
          have t5 : out.length ≤ 100 := hT.short
          subst hcode
          have hro2 := ho2.rsl (by omega)
          have hro2d := hro2.below ((Below.refl w2.heap.size w2).drew) (Nat.le_refl _)
          have hrs2d := hrs2.below ((Below.refl w2.heap.size w2).drew) hz2
          have T3 := Lib.hid t3
          have HOK2 := Lib.hid t2
          have T1 := Lib.hid t1
          have T4 := Lib.hid t4
          have HO2 := Lib.hid ho2
          have hwb : wr.heap.size < w2.heap.size := by omega
          have hb2' : b < w2.heap.size := by omega
          obtain ⟨e0, e1, e2, e3, e4, e5⟩ := hch2
          obtain ⟨g0, g1, g2, g3, g4⟩ := box_facts hx2
          have e1' : w2.cell? ⟨b, off + k * 6 + 1 + 1, none⟩ = some (.int .u64 r.to) := e2
          have HE := Lib.hid (⟨e0, e1, e2, e3, e4, e5⟩ : ChAt w2 b (off + k * 6) 1 r)
          clear t1 t3 t2 t4 hT ho2 hx0 hx2 hrs0 ho hrs e1'
          go_wp2_with fail
          go_region_held3 (fun w' => w'.cell? ⟨b, off + k * 6, none⟩ = some (.int .i64 1) ∧ w'.cell? ⟨b, off + k * 6 + 1, none⟩ = some (.int .u64 r.fr) ∧ w'.cell? ⟨b, off + k * 6 + 2, none⟩ = some (.int .u64 r.to) ∧ w'.cell? ⟨b, off + k * 6 + 3, none⟩ = some (.int .u8 r.prot) ∧ w'.cell? ⟨b, off + k * 6 + 4, none⟩ = some (.int .i64 r.ino) ∧ w'.cell? ⟨b, off + k * 6 + 5, none⟩ = some (.int .u64 r.off) ∧ w'.cell? ⟨wr.heap.size, 0, none⟩ = some (.int .u64 r.fr) ∧ w'.cell? ⟨wr.heap.size, 1, none⟩ = some (.int .u64 r.to) ∧ w'.cell? ⟨wr.heap.size, 2, none⟩ = some (.int .u8 r.prot) ∧ w'.cell? ⟨wr.heap.size, 3, none⟩ = some (.int .i64 r.ino) ∧ w'.cell? ⟨wr.heap.size, 4, none⟩ = some (.int .u64 r.off) ∧ b < w'.heap.size ∧ wr.heap.size < w'.heap.size)
            ((first | (simp [*]; done) | exact keep11 hb5 (by assumption) | exact keep11 hb4 (by assumption) | exact keep11 hb3 (by assumption)))
            ((first
              | (go_at_call 14; refine (right_any A2 out.length c2 _ out (by exact hro2d) HOK2.out).mono ?_; rintro ee w3 ⟨rfl, hb3⟩; rw [T1.out]; have hz3 : w2.heap.size ≤ w3.heap.size := hb3.size)
              | (go_at_call 30; refine (edges_any A1 A2 l.length out.length c1 c2 r _ l out (by exact (hrs2d.below hb3 hz2).more (by omega)) (by exact (hro2d.below hb3 (Nat.le_refl _)).more hz3) (by omega) (by omega)).mono ?_; rintro ee w4 ⟨A4, c4, ts, rfl, hts, ho4, hb4⟩; have hz4 := hb4.size)
              | (go_at_call 29; refine (fits_1 A1 A2 A4 l.length out.length ts.length c1 c2 c4 w3.heap.size r _ l out ts (by exact ((hrs2d.below hb3 hz2).below hb4 (by omega)).more (by omega)) (by exact ((hro2d.below hb3 (Nat.le_refl _)).below hb4 hz3).more (by omega)) (by exact ho4) rfl hts T3.out ).mono ?_; rintro ee w5 ⟨rfl, hb5⟩; have hz5 := hb5.size)))
          have hB5 : Below w2.heap.size w2 w5 := (((Below.refl w2.heap.size w2).drew).trans hb3).trans ((hb4.trans (hb5.mono hz4)).mono hz3)
          clear e0 e1 e2 e3 e4 e5 g0 g1 g2 g3 g4
          go_wp2_with fail
          go_roundw
          case rel => exact ⟨k + 1, by omega, by go_num, hB2.trans (hB5.mono (by omega)), A2, c2, out, rfl, (HO2.out.below hB5 (Nat.le_refl _)).lower (by omega), HOK2.out, t5⟩
          case measure => (simp [intOf]; omega)
        · have hnil := hT.none hcode
          simp at hnil
          subst hnil
          have hcd : (code != 0) = true := by simp [hcode]
          clear hT ho2 hx0 hx2 hrs0 hrs ho hcode
          go_wp2_with fail
          go_roundw
          case rel => exact ⟨k + 1, by omega, by go_num, hB2, A1, c1, l, rfl, (HO.out.below (hB0.trans (hb2.mono (by omega))) (Nat.le_refl _)), hok, hl1⟩
          case measure => (simp [intOf]; omega)
      by_cases hd2 : d = 2
      · subst hd2
        clear hd1
        go_wp2_with fail
        generalize hw0 : wr.alloc (.cells #[.int .u64 r.fr, .int .u64 r.to, .int .u8 r.prot, .int .i64 r.ino, .int .u64 r.off] 25) = w0 at *
        clear hw0 e0 e1 e2 e3 e4 e5 hch
        refine (cut_any A1 l.length c1 r.fr r.to _ l hrs0 hok hro.fr0 hro.fr1 hro.to0 hro.to1).mono ?_
        rintro ee w2 ⟨A2, c2, rfl, ho2, hb2⟩
        have hT : Turned 2 r l (Rg.cut l r.fr r.to) := turned_cut hok
        generalize hX : Rg.cut l r.fr r.to = x at *
        clear hX
        obtain ⟨out, code⟩ := x
        simp only at ho2
        have hz2 := hb2.size
        have hx2 := (hb2.block _ hs0).trans hx0
        have hB2 : Below w.heap.size w w2 := hB.trans ((hB0.trans (hb2.mono (by omega))).mono hBs)
        have hch2 := HCH.out.below (hB0.trans (hb2.mono (by omega))) hb9
        have hrs2 := hrs0.below hb2 (Nat.le_refl _)
        by_cases hcode : code = 0
        · obtain ⟨t1, t2, t3, t4⟩ := hT.some hcode
          have t5 : out.length ≤ 100 := hT.short
          subst hcode
          have hro2 := ho2.rsl (by omega)
          have hro2d := hro2.below ((Below.refl w2.heap.size w2).drew) (Nat.le_refl _)
          have hrs2d := hrs2.below ((Below.refl w2.heap.size w2).drew) hz2
          have T3 := Lib.hid t3
          have HOK2 := Lib.hid t2
          have T1 := Lib.hid t1
          have T4 := Lib.hid t4
          have HO2 := Lib.hid ho2
          have hwb : wr.heap.size < w2.heap.size := by omega
          have hb2' : b < w2.heap.size := by omega
          obtain ⟨e0, e1, e2, e3, e4, e5⟩ := hch2
          obtain ⟨g0, g1, g2, g3, g4⟩ := box_facts hx2
          have e1' : w2.cell? ⟨b, off + k * 6 + 1 + 1, none⟩ = some (.int .u64 r.to) := e2
          have HE := Lib.hid (⟨e0, e1, e2, e3, e4, e5⟩ : ChAt w2 b (off + k * 6) 2 r)
          clear t1 t3 t2 t4 hT ho2 hx0 hx2 hrs0 ho hrs e1'
          go_wp2_with fail
          go_region_held3 (fun w' => w'.cell? ⟨b, off + k * 6, none⟩ = some (.int .i64 2) ∧ w'.cell? ⟨b, off + k * 6 + 1, none⟩ = some (.int .u64 r.fr) ∧ w'.cell? ⟨b, off + k * 6 + 2, none⟩ = some (.int .u64 r.to) ∧ w'.cell? ⟨b, off + k * 6 + 3, none⟩ = some (.int .u8 r.prot) ∧ w'.cell? ⟨b, off + k * 6 + 4, none⟩ = some (.int .i64 r.ino) ∧ w'.cell? ⟨b, off + k * 6 + 5, none⟩ = some (.int .u64 r.off) ∧ w'.cell? ⟨wr.heap.size, 0, none⟩ = some (.int .u64 r.fr) ∧ w'.cell? ⟨wr.heap.size, 1, none⟩ = some (.int .u64 r.to) ∧ w'.cell? ⟨wr.heap.size, 2, none⟩ = some (.int .u8 r.prot) ∧ w'.cell? ⟨wr.heap.size, 3, none⟩ = some (.int .i64 r.ino) ∧ w'.cell? ⟨wr.heap.size, 4, none⟩ = some (.int .u64 r.off) ∧ b < w'.heap.size ∧ wr.heap.size < w'.heap.size)
            ((first | (simp [*]; done) | exact keep11 hb5 (by assumption) | exact keep11 hb4 (by assumption) | exact keep11 hb3 (by assumption)))
            ((first
              | (go_at_call 14; refine (right_any A2 out.length c2 _ out (by exact hro2d) HOK2.out).mono ?_; rintro ee w3 ⟨rfl, hb3⟩; rw [T1.out]; have hz3 : w2.heap.size ≤ w3.heap.size := hb3.size)
              | (go_at_call 30; refine (edges_any A1 A2 l.length out.length c1 c2 r _ l out (by exact (hrs2d.below hb3 hz2).more (by omega)) (by exact (hro2d.below hb3 (Nat.le_refl _)).more hz3) (by omega) (by omega)).mono ?_; rintro ee w4 ⟨A4, c4, ts, rfl, hts, ho4, hb4⟩; have hz4 := hb4.size)
              | (go_at_call 29; refine (fits_2 A1 A2 A4 l.length out.length ts.length c1 c2 c4 w3.heap.size r _ l out ts (by exact ((hrs2d.below hb3 hz2).below hb4 (by omega)).more (by omega)) (by exact ((hro2d.below hb3 (Nat.le_refl _)).below hb4 hz3).more (by omega)) (by exact ho4) rfl hts T3.out ).mono ?_; rintro ee w5 ⟨rfl, hb5⟩; have hz5 := hb5.size)))
          have hB5 : Below w2.heap.size w2 w5 := (((Below.refl w2.heap.size w2).drew).trans hb3).trans ((hb4.trans (hb5.mono hz4)).mono hz3)
          clear e0 e1 e2 e3 e4 e5 g0 g1 g2 g3 g4
          go_wp2_with fail
          go_roundw
          case rel => exact ⟨k + 1, by omega, by go_num, hB2.trans (hB5.mono (by omega)), A2, c2, out, rfl, (HO2.out.below hB5 (Nat.le_refl _)).lower (by omega), HOK2.out, t5⟩
          case measure => (simp [intOf]; omega)
        · have hnil := hT.none hcode
          simp at hnil
          subst hnil
          have hcd : (code != 0) = true := by simp [hcode]
          clear hT ho2 hx0 hx2 hrs0 hrs ho hcode
          go_wp2_with fail
          go_roundw
          case rel => exact ⟨k + 1, by omega, by go_num, hB2, A1, c1, l, rfl, (HO.out.below (hB0.trans (hb2.mono (by omega))) (Nat.le_refl _)), hok, hl1⟩
          case measure => (simp [intOf]; omega)
      by_cases hd3 : d = 3
      · subst hd3
        clear hd1 hd2
        go_wp2_with fail
        generalize hw0 : wr.alloc (.cells #[.int .u64 r.fr, .int .u64 r.to, .int .u8 r.prot, .int .i64 r.ino, .int .u64 r.off] 25) = w0 at *
        clear hw0 e0 e1 e2 e3 e4 e5 hch
        refine (protect_any A1 l.length c1 r.fr r.to r.prot _ l hrs0 hok hro.fr0 hro.fr1 hro.to0 hro.to1).mono ?_
        rintro ee w2 ⟨A2, c2, rfl, ho2, hb2⟩
        have hT : Turned 3 r l (Rg.protect l r.fr r.to r.prot) := turned_protect hok hro
        generalize hX : Rg.protect l r.fr r.to r.prot = x at *
        clear hX
        obtain ⟨out, code⟩ := x
        simp only at ho2
        have hz2 := hb2.size
        have hx2 := (hb2.block _ hs0).trans hx0
        have hB2 : Below w.heap.size w w2 := hB.trans ((hB0.trans (hb2.mono (by omega))).mono hBs)
        have hch2 := HCH.out.below (hB0.trans (hb2.mono (by omega))) hb9
        have hrs2 := hrs0.below hb2 (Nat.le_refl _)
        by_cases hcode : code = 0
        · obtain ⟨t1, t2, t3, t4⟩ := hT.some hcode
          have t5 : out.length ≤ 100 := hT.short
          subst hcode
          have hro2 := ho2.rsl (by omega)
          have hro2d := hro2.below ((Below.refl w2.heap.size w2).drew) (Nat.le_refl _)
          have hrs2d := hrs2.below ((Below.refl w2.heap.size w2).drew) hz2
          have T3 := Lib.hid t3
          have HOK2 := Lib.hid t2
          have T1 := Lib.hid t1
          have T4 := Lib.hid t4
          have HO2 := Lib.hid ho2
          have hwb : wr.heap.size < w2.heap.size := by omega
          have hb2' : b < w2.heap.size := by omega
          obtain ⟨e0, e1, e2, e3, e4, e5⟩ := hch2
          obtain ⟨g0, g1, g2, g3, g4⟩ := box_facts hx2
          have e1' : w2.cell? ⟨b, off + k * 6 + 1 + 1, none⟩ = some (.int .u64 r.to) := e2
          have HE := Lib.hid (⟨e0, e1, e2, e3, e4, e5⟩ : ChAt w2 b (off + k * 6) 3 r)
          clear t1 t3 t2 t4 hT ho2 hx0 hx2 hrs0 ho hrs e1'
          go_wp2_with fail
          go_region_held3 (fun w' => w'.cell? ⟨b, off + k * 6, none⟩ = some (.int .i64 3) ∧ w'.cell? ⟨b, off + k * 6 + 1, none⟩ = some (.int .u64 r.fr) ∧ w'.cell? ⟨b, off + k * 6 + 2, none⟩ = some (.int .u64 r.to) ∧ w'.cell? ⟨b, off + k * 6 + 3, none⟩ = some (.int .u8 r.prot) ∧ w'.cell? ⟨b, off + k * 6 + 4, none⟩ = some (.int .i64 r.ino) ∧ w'.cell? ⟨b, off + k * 6 + 5, none⟩ = some (.int .u64 r.off) ∧ w'.cell? ⟨wr.heap.size, 0, none⟩ = some (.int .u64 r.fr) ∧ w'.cell? ⟨wr.heap.size, 1, none⟩ = some (.int .u64 r.to) ∧ w'.cell? ⟨wr.heap.size, 2, none⟩ = some (.int .u8 r.prot) ∧ w'.cell? ⟨wr.heap.size, 3, none⟩ = some (.int .i64 r.ino) ∧ w'.cell? ⟨wr.heap.size, 4, none⟩ = some (.int .u64 r.off) ∧ b < w'.heap.size ∧ wr.heap.size < w'.heap.size)
            ((first | (simp [*]; done) | exact keep11 hb5 (by assumption) | exact keep11 hb4 (by assumption) | exact keep11 hb3 (by assumption)))
            ((first
              | (go_at_call 14; refine (right_any A2 out.length c2 _ out (by exact hro2d) HOK2.out).mono ?_; rintro ee w3 ⟨rfl, hb3⟩; rw [T1.out]; have hz3 : w2.heap.size ≤ w3.heap.size := hb3.size)
              | (go_at_call 30; refine (edges_any A1 A2 l.length out.length c1 c2 r _ l out (by exact (hrs2d.below hb3 hz2).more (by omega)) (by exact (hro2d.below hb3 (Nat.le_refl _)).more hz3) (by omega) (by omega)).mono ?_; rintro ee w4 ⟨A4, c4, ts, rfl, hts, ho4, hb4⟩; have hz4 := hb4.size)
              | (go_at_call 29; refine (fits_3 A1 A2 A4 l.length out.length ts.length c1 c2 c4 w3.heap.size r _ l out ts (by exact ((hrs2d.below hb3 hz2).below hb4 (by omega)).more (by omega)) (by exact ((hro2d.below hb3 (Nat.le_refl _)).below hb4 hz3).more (by omega)) (by exact ho4) rfl hts T3.out (T4.out (by trivial))).mono ?_; rintro ee w5 ⟨rfl, hb5⟩; have hz5 := hb5.size)))
          have hB5 : Below w2.heap.size w2 w5 := (((Below.refl w2.heap.size w2).drew).trans hb3).trans ((hb4.trans (hb5.mono hz4)).mono hz3)
          clear e0 e1 e2 e3 e4 e5 g0 g1 g2 g3 g4
          go_wp2_with fail
          go_roundw
          case rel => exact ⟨k + 1, by omega, by go_num, hB2.trans (hB5.mono (by omega)), A2, c2, out, rfl, (HO2.out.below hB5 (Nat.le_refl _)).lower (by omega), HOK2.out, t5⟩
          case measure => (simp [intOf]; omega)
        · have hnil := hT.none hcode
          simp at hnil
          subst hnil
          have hcd : (code != 0) = true := by simp [hcode]
          clear hT ho2 hx0 hx2 hrs0 hrs ho hcode
          go_wp2_with fail
          go_roundw
          case rel => exact ⟨k + 1, by omega, by go_num, hB2, A1, c1, l, rfl, (HO.out.below (hB0.trans (hb2.mono (by omega))) (Nat.le_refl _)), hok, hl1⟩
          case measure => (simp [intOf]; omega)
      have b1 : (d == 1) = false := beq_eq_false_iff_ne.2 hd1
      have b2 : (d == 2) = false := beq_eq_false_iff_ne.2 hd2
      have b3 : (d == 3) = false := beq_eq_false_iff_ne.2 hd3
      have HOR := Lib.hid (OwnR.below ho hB0 (Nat.le_refl _))
      clear hd1 hd2 hd3 hrs0 hx0 ho hrs
      go_wp2_with fail
      go_roundw
      case rel => exact ⟨k + 1, by omega, by go_num, hB.trans (hB0.mono hBs), A1, c1, l, rfl, HOR.out, hok, hl1⟩
      case measure => simp [intOf]; omega
    · by_cases hlt1 : k < n
      · have hlt2 : ¬ k < 30 := fun h => hlt ⟨hlt1, h⟩
        clear hlt ho hok
        go_wp2_with fail
        refine (works_any _).mono ?_
        rintro ee w9 ⟨rfl, hb9⟩
        go_wp2_with fail
        go_ret
        exact ⟨rfl, hB.trans (hb9.mono hBs)⟩
      · clear hlt ho hok
        go_wp2_with fail
        refine (works_any _).mono ?_
        rintro ee w9 ⟨rfl, hb9⟩
        go_wp2_with fail
        go_ret
        exact ⟨rfl, hB.trans (hb9.mono hBs)⟩

end Go.Proofs.Ytdkhgofnhemhmaa
