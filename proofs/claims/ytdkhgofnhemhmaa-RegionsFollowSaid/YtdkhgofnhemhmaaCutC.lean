/- Regions: Protect, of the program and of the references. -/
import Derived.Test.YtdkhgofnhemhmaaCutB
namespace Go.Proofs.Ytdkhgofnhemhmaa
open Go.RowKit Go.Sort
set_option linter.unusedSimpArgs false
set_option linter.unusedVariables false

theorem find_cases (l : List Reg) (a : Int) : (l.find? (Rg.holds · a) = none ∧ Rg.find l a = (zeroReg, false)) ∨ ∃ r, l.find? (Rg.holds · a) = some r ∧ Rg.find l a = (r, true) ∧ r ∈ l ∧ r.fr ≤ a ∧ a < r.to := by
  cases h : l.find? (Rg.holds · a) with
  | none => exact .inl ⟨rfl, by simp [Rg.find, h]⟩
  | some r =>
    have h1 := List.find?_some h
    simp [Rg.holds] at h1
    exact .inr ⟨r, rfl, by simp [Rg.find, h], List.mem_of_find?_eq_some h, h1.1, h1.2⟩

set_option maxHeartbeats 4000000 in
theorem protect_any (A : Option Addr) (n cap : Nat) (f t p : Int) (w : World) (l : List Reg) (hl : RSl w w.heap.size A n cap l) (hok : AllOk l) (h0 : 0 ≤ f) (h1 : f ≤ 18446744073709551615) (h2 : 0 ≤ t) (h3 : t ≤ 18446744073709551615) :
    Calls Try.prog 27 #[.slice A n cap, .int .u64 f, .int .u64 t, .int .u8 p] w (ListPost w (Rg.protect l f t p)) := by
  have hln := Lib.hid hl.len
  have hB0 : Below w.heap.size w (w.alloc (.cells #[.int .u8 p] 5)) := by ((repeat' (with_reducible (first | assumption | (refine Below.alloc ?_ ?_ _) | (refine Below.setCell ?_ ?_ _) | (refine Below.drew ?_) | (refine below_drewN ?_ _) | exact Below.refl _ _ | (refine Below.trans ?_ (Below.mono (by assumption) ?_))))) <;> (try simp) <;> (try omega))
  have hl0 := (hl.below hB0 (Nat.le_refl _)).more (B' := (w.alloc (.cells #[.int .u8 p] 5)).heap.size) (by simp)
  have hS := stretch_any A n cap f t _ l hl0 hok h0 h1 h2 h3
  cases hst : Rg.stretch l f t with
  | false =>
    have HP : Hid (Rg.protect l f t p = ([], 1)) := Lib.hid (by simp [Rg.protect, hst])
    rw [hst] at hS
    have HS := Lib.hid hS
    clear hS hst hl hl0 hB0
    go_enter Try.func27, Try.ntmps27
    go_wp2_with (go_at_call 45; refine (HS.out).mono ?_; rintro e w1 ⟨rfl, hb1⟩)
    have hz := hb1.size
    simp at hz
    go_ret2
    rw [HP.out]
    exact ⟨none, 0, rfl, OwnR.nil _ _, by ((repeat' (with_reducible (first | assumption | (refine Below.alloc ?_ ?_ _) | (refine Below.setCell ?_ ?_ _) | (refine Below.drew ?_) | (refine below_drewN ?_ _) | exact Below.refl _ _ | (refine Below.trans ?_ (Below.mono (by assumption) ?_))))) <;> (try simp) <;> (try omega))⟩
  | true =>
    obtain ⟨hr, hft, _⟩ := stretch_spec hst
    have h64 := (right_all hr).2
    have hap := right_apart hr
    rw [hst] at hS
    have HS := Lib.hid hS
    by_cases hp : p ≤ 7
    · have HP : Hid (Rg.protect l f t p = if Rg.cov l f t = true then Rg.few (Rg.joined (Rg.run f t (hProt p) l)) else ([], 6)) := Lib.hid (by simp [Rg.protect, hst, hp])
      have hrl := run_len f t (hProt p) l
      have HAP := Lib.hid hap
      clear hS hst hr hap hl hB0
      go_enter Try.func27, Try.ntmps27
      go_wp2_with (go_at_call 45; refine (HS.out).mono ?_; rintro e w1 ⟨rfl, hb1⟩; have hz1 := hb1.size; simp at hz1; have q0 : w1.cell? ⟨w.heap.size, 0, none⟩ = some (.int .u8 p) := ((hb1.cell (p := ⟨w.heap.size, 0, none⟩) (by simp)).trans (by simp)))
      have hl1 := (hl0.below hb1 (Nat.le_refl _)).more (B' := w1.heap.size) hb1.size
      have hBw1 : Below w.heap.size w w1 := by ((repeat' (with_reducible (first | assumption | (refine Below.alloc ?_ ?_ _) | (refine Below.setCell ?_ ?_ _) | (refine Below.drew ?_) | (refine below_drewN ?_ _) | exact Below.refl _ _ | (refine Below.trans ?_ (Below.mono (by assumption) ?_))))) <;> (try simp) <;> (try omega))
      have Q0 := Lib.hid q0
      clear q0 hl0
      go_loopw [10] (fun v wr => ∃ a : Int, v = .int .u64 a ∧ f ≤ a ∧ Below w1.heap.size w1 wr ∧ Rg.cov l a t = Rg.cov l f t) (fun v _ => (t - intOf v).toNat)
      case atStart => exact ⟨f, rfl, by omega, Below.refl _ _, rfl⟩
      case round =>
        obtain ⟨a, rfl, hfa, hB, hcv⟩ := hrel
        have hBs := hB.size
        have CV := Lib.hid hcv
        have hlr := (hl1.below hB (Nat.le_refl _)).more (B' := wr.heap.size) hBs
        have hFd := find_any A n cap a wr l hlr
        have hlw1 : w.heap.size < w1.heap.size := by omega
        have q0 := (hB.cell (p := ⟨w.heap.size, 0, none⟩) hlw1).trans Q0.out
        have hlwr : w.heap.size < wr.heap.size := by omega
        clear hcv
        by_cases hat : a < t
        · rcases find_cases l a with ⟨e1, e2⟩ | ⟨r, e1, e2, hrm, hr1, hr2⟩
          · rw [e2] at hFd
            have HF := Lib.hid hFd
            have hfin : Hid (Rg.protect l f t p = ([], 6)) := Lib.hid (by rw [HP.out, ← CV.out, cov_none hat e1]; simp)
            clear hFd e1 e2 hlr
            go_wp2_with (go_at_call 12; refine (HF.out).mono ?_; rintro e w2 ⟨rfl, hb2⟩)
            go_ret2
            rw [hfin.out]
            have hz2 := hb2.size
            have q2 : Below w.heap.size w w2 := (hBw1.trans (hB.mono (by omega))).trans (hb2.mono (by omega))
            exact ⟨none, 0, rfl, OwnR.nil _ _, by ((repeat' (with_reducible (first | assumption | (refine Below.alloc ?_ ?_ _) | (refine Below.setCell ?_ ?_ _) | (refine Below.drew ?_) | (refine below_drewN ?_ _) | exact Below.refl _ _ | (refine Below.trans ?_ (Below.mono (by assumption) ?_))))) <;> (try simp) <;> (try omega))⟩
          · rw [e2] at hFd
            have HF := Lib.hid hFd
            have hstep := Lib.hid ((cov_step HAP.out hat e1).symm.trans CV.out)
            clear hFd e1 e2 hlr hrm
            go_wp2_with (go_at_call 12; refine (HF.out).mono ?_; rintro e w2 ⟨rfl, hb2⟩; have hz2 := hb2.size)
            go_roundw
            case rel => exact ⟨r.to, rfl, by omega, (hB.trans (hb2.mono (by omega))).alloc (by omega) _, hstep.out⟩
            case measure => simp [intOf]; omega
        · have hcov : Rg.cov l f t = true := by rw [← CV.out]; exact cov_done (by omega)
          have hput : Hid (Rg.protect l f t p = Rg.few (Rg.joined (Rg.run f t (hProt p) l))) := Lib.hid (by rw [HP.out, if_pos hcov])
          have hRn := run_prot_any p w.heap.size f t A n cap wr l hlr (by have := hln.out; omega) q0 hlwr
          have HRn := Lib.hid hRn
          generalize hrn : Rg.run f t (hProt p) l = rn at *
          have HRN := Lib.hid hrn
          clear hrn hRn hcov hFd hlr
          go_wp2_with fail
          refine (HRn.out).mono ?_
          rintro e w2 ⟨A2, c2, rfl, ho2, hb2⟩
          have hz2 := hb2.size
          have hrs2 := ho2.rsl (by omega)
          go_wp2_with fail
          refine (done_any A2 _ c2 w2 _ hrs2 (by omega)).mono ?_
          rintro e w3 ⟨A3, c3, rfl, ho3, hb3⟩
          go_wp2_with fail
          go_ret2
          rw [hput.out]
          refine ⟨A3, c3, rfl, ho3.lower (by omega), ?_⟩
          exact ((hBw1.trans (hB.mono (by omega))).trans (hb2.mono (by omega))).trans (hb3.mono (by omega))
    · have HP : Hid (Rg.protect l f t p = ([], 1)) := Lib.hid (by simp [Rg.protect, hp])
      clear hS hst hr hap hl hl0 hB0
      go_enter Try.func27, Try.ntmps27
      go_wp2_with (go_at_call 45; refine (HS.out).mono ?_; rintro e w1 ⟨rfl, hb1⟩; have hz1 := hb1.size; simp at hz1; have q0 : w1.cell? ⟨w.heap.size, 0, none⟩ = some (.int .u8 p) := ((hb1.cell (p := ⟨w.heap.size, 0, none⟩) (by simp)).trans (by simp)))
      go_ret2
      rw [HP.out]
      exact ⟨none, 0, rfl, OwnR.nil _ _, by ((repeat' (with_reducible (first | assumption | (refine Below.alloc ?_ ?_ _) | (refine Below.setCell ?_ ?_ _) | (refine Below.drew ?_) | (refine below_drewN ?_ _) | exact Below.refl _ _ | (refine Below.trans ?_ (Below.mono (by assumption) ?_))))) <;> (try simp) <;> (try omega))⟩

end Go.Proofs.Ytdkhgofnhemhmaa
