/- Regions: Cut and Protect, of the program and of the references. -/
import Derived.Test.YtdkhgofnhemhmaaCutA
namespace Go.Proofs.Ytdkhgofnhemhmaa
open Go.RowKit Go.Sort
set_option linter.unusedSimpArgs false
set_option linter.unusedVariables false

theorem str_ok {f t : Int} (h0 : 0 ≤ f) (h1 : f ≤ 18446744073709551615) (h2 : 0 ≤ t) (h3 : t ≤ 18446744073709551615) : Reg.Ok ⟨f, t, 0, -1, 0⟩ :=
  ⟨h0, h1, h2, h3, by simp, by simp, by simp, by simp, by simp, by simp⟩

set_option maxHeartbeats 400000 in
theorem stretch_any (A : Option Addr) (n cap : Nat) (f t : Int) (w : World) (l : List Reg) (hl : RSl w w.heap.size A n cap l) (hok : AllOk l) (h0 : 0 ≤ f) (h1 : f ≤ 18446744073709551615) (h2 : 0 ≤ t) (h3 : t ≤ 18446744073709551615) :
    Calls Try.prog 45 #[.slice A n cap, .int .u64 f, .int .u64 t] w fun e w' => e = .returned (.bool (Rg.stretch l f t)) ∧ Below w.heap.size w w' := by
  have hR := right_any A n cap w l hl hok
  cases hrl : Rg.right l with
  | false =>
    have HH : Hid (Rg.stretch l f t = false) := Lib.hid (by simp [Rg.stretch, hrl])
    rw [hrl] at hR
    have HR := Lib.hid hR
    clear hR hrl
    go_enter Try.func45, Try.ntmps45
    go_wp2_with (go_at_call 14; refine (HR.out).mono ?_; rintro e w1 ⟨rfl, hb1⟩)
    go_ret
    exact ⟨ret_bool (by rw [HH.out]), hb1⟩
  | true =>
    have hM := fun W => may_any ⟨f, t, 0, -1, 0⟩ W (str_ok h0 h1 h2 h3)
    have HH : Hid (Rg.stretch l f t = Rg.one ⟨f, t, 0, -1, 0⟩) := Lib.hid (by simp [Rg.stretch, hrl])
    rw [hrl] at hR
    have HR := Lib.hid hR
    have HM := Lib.hid hM
    clear hR hrl hM
    generalize Rg.one ⟨f, t, 0, -1, 0⟩ = b at *
    go_enter Try.func45, Try.ntmps45
    go_wp2_with (first
      | (go_at_call 14; refine (HR.out).mono ?_; rintro e w1 ⟨rfl, hb1⟩; have hz1 := hb1.size)
      | (go_at_call 32; refine (HM.out _).mono ?_; rintro e w2 ⟨rfl, hb2⟩))
    go_ret
    exact ⟨ret_bool (by rw [HH.out]), by ((repeat' (with_reducible (first | assumption | (refine Below.alloc ?_ ?_ _) | (refine Below.setCell ?_ ?_ _) | (refine Below.drew ?_) | (refine below_drewN ?_ _) | exact Below.refl _ _ | (refine Below.trans ?_ (Below.mono (by assumption) ?_))))) <;> (try simp) <;> (try omega))⟩

set_option maxHeartbeats 400000 in
theorem rstretch_any (A : Option Addr) (n cap : Nat) (f t : Int) (w : World) (l : List Reg) (hl : RSl w w.heap.size A n cap l) (hok : AllOk l) (h0 : 0 ≤ f) (h1 : f ≤ 18446744073709551615) (h2 : 0 ≤ t) (h3 : t ≤ 18446744073709551615) :
    Calls Try.prog 46 #[.slice A n cap, .int .u64 f, .int .u64 t] w fun e w' => e = .returned (.bool (Rg.stretch l f t)) ∧ Below w.heap.size w w' := by
  have hR := rright_any A n cap w l hl hok
  cases hrl : Rg.right l with
  | false =>
    have HH : Hid (Rg.stretch l f t = false) := Lib.hid (by simp [Rg.stretch, hrl])
    rw [hrl] at hR
    have HR := Lib.hid hR
    clear hR hrl
    go_enter Try.func46, Try.ntmps46
    go_wp2_with (go_at_call 15; refine (HR.out).mono ?_; rintro e w1 ⟨rfl, hb1⟩)
    go_ret
    exact ⟨ret_bool (by rw [HH.out]), hb1⟩
  | true =>
    have HH : Hid (Rg.stretch l f t = decide (f < t ∧ t ≤ 140737488355328 ∧ f % 4096 = 0 ∧ t % 4096 = 0)) := Lib.hid (by simp [Rg.stretch, hrl, Rg.one])
    rw [hrl] at hR
    have HR := Lib.hid hR
    clear hR hrl
    go_enter Try.func46, Try.ntmps46
    go_wp2_with (go_at_call 15; refine (HR.out).mono ?_; rintro e w1 ⟨rfl, hb1⟩)
    all_goals
      go_ret
      refine ⟨ret_bool ?_, by ((repeat' (with_reducible (first | assumption | (refine Below.alloc ?_ ?_ _) | (refine Below.setCell ?_ ?_ _) | (refine Below.drew ?_) | (refine below_drewN ?_ _) | exact Below.refl _ _ | (refine Below.trans ?_ (Below.mono (by assumption) ?_))))) <;> (try simp) <;> (try omega))⟩
      rw [HH.out, Bool.eq_iff_iff]
      simp [*]
      try omega
      done

/-- What a call that makes a list answers. -/
def ListPost (w : World) (p : List Reg × Int) (e : Ending) (w' : World) : Prop :=
  ∃ A' cap', e = .returned (.tuple #[.slice A' p.1.length cap', .int .i64 p.2]) ∧ OwnR w' w.heap.size A' cap' p.1 ∧ Below w.heap.size w w'

set_option maxHeartbeats 1000000 in
theorem cut_any (A : Option Addr) (n cap : Nat) (f t : Int) (w : World) (l : List Reg) (hl : RSl w w.heap.size A n cap l) (hok : AllOk l) (h0 : 0 ≤ f) (h1 : f ≤ 18446744073709551615) (h2 : 0 ≤ t) (h3 : t ≤ 18446744073709551615) :
    Calls Try.prog 25 #[.slice A n cap, .int .u64 f, .int .u64 t] w (ListPost w (Rg.cut l f t)) := by
  have hS := stretch_any A n cap f t w l hl hok h0 h1 h2 h3
  have hln := Lib.hid hl.len
  cases hst : Rg.stretch l f t with
  | false =>
    have HP : Hid (Rg.cut l f t = ([], 1)) := Lib.hid (by simp [Rg.cut, hst])
    rw [hst] at hS
    have HS := Lib.hid hS
    clear hS hst
    go_enter Try.func25, Try.ntmps25
    go_wp2_with (go_at_call 45; refine (HS.out).mono ?_; rintro e w1 ⟨rfl, hb1⟩)
    go_ret2
    rw [HP.out]
    exact ⟨none, 0, rfl, OwnR.nil _ _, hb1⟩
  | true =>
    obtain ⟨hr, hft, _⟩ := stretch_spec hst
    have h64 := (right_all hr).2
    have HP : Hid (Rg.cut l f t = Rg.few (Rg.joined (Rg.run f t hGone l))) := Lib.hid (by simp [Rg.cut, hst, cut_law hr hok hft])
    have hrl := run_len f t hGone l
    rw [hst] at hS
    have HS := Lib.hid hS
    clear hS hst hr
    generalize hrn : Rg.run f t hGone l = rn at *
    have HRN := Lib.hid hrn
    clear hrn
    go_enter Try.func25, Try.ntmps25
    go_wp2_with fail
    refine (HS.out).mono ?_
    rintro e w1 ⟨rfl, hb1⟩
    have hz1 := hb1.size
    have hl1 := (hl.below hb1 (Nat.le_refl _)).more hb1.size
    go_wp2_with fail
    refine (run_gone_any f t A n cap w1 l hl1 (by have := hln.out; omega)).mono ?_
    rintro e w2 ⟨A2, c2, rfl, ho2, hb2⟩
    rw [HRN.out] at ho2 ⊢
    have hz2 := hb2.size
    have hrs2 := ho2.rsl (by omega)
    go_wp2_with fail
    refine (done_any A2 _ c2 w2 _ hrs2 (by omega)).mono ?_
    rintro e w3 ⟨A3, c3, rfl, ho3, hb3⟩
    go_wp2_with fail
    go_ret2
    rw [HP.out]
    refine ⟨A3, c3, rfl, ho3.lower (by omega), ?_⟩
    exact (hb1.trans (hb2.mono (by omega))).trans (hb3.mono (by omega))

set_option maxHeartbeats 1000000 in
theorem rcut_any (A : Option Addr) (n cap : Nat) (f t : Int) (w : World) (l : List Reg) (hl : RSl w w.heap.size A n cap l) (hok : AllOk l) (h0 : 0 ≤ f) (h1 : f ≤ 18446744073709551615) (h2 : 0 ≤ t) (h3 : t ≤ 18446744073709551615) :
    Calls Try.prog 26 #[.slice A n cap, .int .u64 f, .int .u64 t] w (ListPost w (Rg.cut l f t)) := by
  have hS := rstretch_any A n cap f t w l hl hok h0 h1 h2 h3
  have hln := Lib.hid hl.len
  cases hst : Rg.stretch l f t with
  | false =>
    have HP : Hid (Rg.cut l f t = ([], 1)) := Lib.hid (by simp [Rg.cut, hst])
    rw [hst] at hS
    have HS := Lib.hid hS
    clear hS hst
    go_enter Try.func26, Try.ntmps26
    go_wp2_with (go_at_call 46; refine (HS.out).mono ?_; rintro e w1 ⟨rfl, hb1⟩)
    go_ret2
    rw [HP.out]
    exact ⟨none, 0, rfl, OwnR.nil _ _, hb1⟩
  | true =>
    obtain ⟨hr, hft, _⟩ := stretch_spec hst
    have h64 := (right_all hr).2
    have HP : Hid (Rg.cut l f t = Rg.few (Rg.without l f t)) := Lib.hid (by simp [Rg.cut, hst])
    have hrl := without_len l f t
    rw [hst] at hS
    have HS := Lib.hid hS
    clear hS hst hr
    generalize hrn : Rg.without l f t = rn at *
    have HRN := Lib.hid hrn
    clear hrn
    go_enter Try.func26, Try.ntmps26
    go_wp2_with fail
    refine (HS.out).mono ?_
    rintro e w1 ⟨rfl, hb1⟩
    have hz1 := hb1.size
    have hl1 := (hl.below hb1 (Nat.le_refl _)).more hb1.size
    go_wp2_with fail
    refine (without_any f t A n cap w1 l hl1 (by have := hln.out; omega)).mono ?_
    rintro e w2 ⟨A2, c2, rfl, ho2, hb2⟩
    rw [HRN.out] at ho2 ⊢
    have hz2 := hb2.size
    go_wp2_with fail
    refine (few_any A2 c2 w2 _ _ ho2 (by omega)).mono ?_
    rintro e w3 ⟨A3, c3, rfl, ho3, rfl⟩
    go_wp2_with fail
    go_ret2
    rw [HP.out]
    exact ⟨A3, c3, rfl, ho3.lower (by omega), hb1.trans (hb2.mono (by omega))⟩

def CovTo (l : List Reg) (f t : Int) (k : Nat) (a : Int) : Prop := Rg.cov (l.drop k) a t = Rg.cov l f t
theorem CovTo.hit {l : List Reg} {f t a : Int} {k : Nat} {r : Reg} (h : CovTo l f t k a) (hr : l[k]? = some r) (h1 : a < t) (h2 : r.fr ≤ a) (h3 : a < r.to) : CovTo l f t (k + 1) r.to := by
  unfold CovTo at *
  rw [← h, drop_get hr, Rg.cov, if_pos h1, if_pos ⟨h2, h3⟩]
theorem CovTo.miss {l : List Reg} {f t a : Int} {k : Nat} {r : Reg} (h : CovTo l f t k a) (hr : l[k]? = some r) (h1 : a < t) (h2 : ¬ (r.fr ≤ a ∧ a < r.to)) : CovTo l f t (k + 1) a := by
  unfold CovTo at *
  rw [← h, drop_get hr, Rg.cov, if_pos h1, if_neg h2]
theorem CovTo.full {l : List Reg} {f t a : Int} {k : Nat} (h : CovTo l f t k a) (h1 : ¬ a < t) : Rg.cov l f t = decide (t ≤ a) := by
  unfold CovTo at h
  rw [← h, cov_done (by omega)]
  simp
  omega
theorem CovTo.last {l : List Reg} {f t a : Int} {k : Nat} (h : CovTo l f t k a) (h1 : l.length ≤ k) : Rg.cov l f t = decide (t ≤ a) := by
  unfold CovTo at h
  rw [← h, List.drop_of_length_le h1]
  rfl

set_option maxHeartbeats 1000000 in
theorem covered_any (A : Option Addr) (n cap : Nat) (f t : Int) (w : World) (l : List Reg) (hl : RSl w w.heap.size A n cap l) :
    Calls Try.prog 48 #[.slice A n cap, .int .u64 f, .int .u64 t] w fun e w' => e = .returned (.bool (Rg.cov l f t)) ∧ Below w.heap.size w w' := by
  have hln := Lib.hid hl.len
  have hfew := hl.few
  go_enter Try.func48, Try.ntmps48
  go_wp2
  go_loopw [7, 8] (fun v i wr => ∃ (k : Nat) (a : Int), k ≤ n ∧ i = .int .i64 k ∧ v = .int .u64 a ∧ Below w.heap.size w wr ∧ CovTo l f t k a) (fun _ i _ => n - (intOf i).toNat)
  case atStart => exact ⟨0, f, Nat.zero_le _, rfl, rfl, Below.refl _ _, rfl⟩
  case round =>
    obtain ⟨k, a, hk, rfl, rfl, hB, hcv⟩ := hrel
    have CV := Lib.hid hcv
    clear hcv
    by_cases hlt : k < n
    · by_cases hat : a < t
      · obtain ⟨r, hr⟩ : ∃ r, l[k]? = some r := ⟨_, List.getElem?_eq_getElem (by have := hln.out; omega)⟩
        obtain ⟨b, off, rfl, hb, hra⟩ := hl.at_ k r hr
        obtain ⟨g0, g1, g2, g3, g4⟩ := hra.below hB hb
        have HR := Lib.hid hr
        clear hr hra
        by_cases c1 : r.fr ≤ a
        · by_cases c2 : a < r.to
          · have hfin := Lib.hid (CV.out.hit HR.out hat c1 c2)
            go_wp2
            go_roundw
            case rel => exact ⟨k + 1, r.to, by omega, by go_num, rfl, by ((repeat' (with_reducible (first | assumption | (refine Below.alloc ?_ ?_ _) | (refine Below.setCell ?_ ?_ _) | (refine Below.drew ?_) | (refine below_drewN ?_ _) | exact Below.refl _ _ | (refine Below.trans ?_ (Below.mono (by assumption) ?_))))) <;> (try simp) <;> (try omega)), hfin.out⟩
            case measure => simp [intOf]; omega
          · have hfin := Lib.hid (CV.out.miss HR.out hat (fun h => c2 h.2))
            go_wp2
            go_roundw
            case rel => exact ⟨k + 1, a, by omega, by go_num, rfl, by ((repeat' (with_reducible (first | assumption | (refine Below.alloc ?_ ?_ _) | (refine Below.setCell ?_ ?_ _) | (refine Below.drew ?_) | (refine below_drewN ?_ _) | exact Below.refl _ _ | (refine Below.trans ?_ (Below.mono (by assumption) ?_))))) <;> (try simp) <;> (try omega)), hfin.out⟩
            case measure => simp [intOf]; omega
        · have hfin := Lib.hid (CV.out.miss HR.out hat (fun h => c1 h.1))
          go_wp2
          go_roundw
          case rel => exact ⟨k + 1, a, by omega, by go_num, rfl, by ((repeat' (with_reducible (first | assumption | (refine Below.alloc ?_ ?_ _) | (refine Below.setCell ?_ ?_ _) | (refine Below.drew ?_) | (refine below_drewN ?_ _) | exact Below.refl _ _ | (refine Below.trans ?_ (Below.mono (by assumption) ?_))))) <;> (try simp) <;> (try omega)), hfin.out⟩
          case measure => simp [intOf]; omega
      · have hfin := Lib.hid (CV.out.full hat)
        go_wp2
        go_ret
        exact ⟨ret_bool (by rw [hfin.out]; simp; omega), hB⟩
    · have hfin := Lib.hid (CV.out.last (by have := hln.out; omega))
      go_wp2
      all_goals
        go_ret
        exact ⟨ret_bool (by first | (rw [hfin.out]; done) | (rw [hfin.out]; simp; done) | (rw [hfin.out]; simp; omega)), hB⟩

end Go.Proofs.Ytdkhgofnhemhmaa
