/- The document's pool: taken, Take, Up, Down, Count, Free, Size. -/
import Derived.Test.YtkkmcnngpahfaaaGreatDoorDpA
namespace Go.Proofs.YtkkmcnngpahfaaaGreatDoor
open Go.RowKit Go.Sort
set_option linter.unusedSimpArgs false
set_option linter.unusedVariables false
variable {w : World} {B : Nat} {z : DpW} {p : Pool}

theorem qtaken_any (f : Int) (h : DpIs w B z p) :
    Calls Tryz.prog 111 #[.pointer (some ⟨z.q, 0, none⟩), .int .i64 f] w fun e w' => e = .returned (.bool (takenB p f)) ∧ w = w' := by
  obtain ⟨h0, -⟩ := h.c
  have hC := h.counts
  have hn := h.few
  clear h
  by_cases h1 : 0 ≤ f
  · obtain ⟨g, rfl⟩ := Int.eq_ofNat_of_zero_le h1
    by_cases h2 : g < p.n
    · have hc := row_cell hC h2
      clear hC
      go_enter Tryz.func111, Tryz.ntmps111
      go_wp2
      go_ret
      exact ⟨ret_bool (by rw [takenB_nat]; simp [h2]), rfl⟩
    · clear hC
      go_enter Tryz.func111, Tryz.ntmps111
      go_wp2
      go_ret
      exact ⟨ret_bool (by rw [takenB_nat]; simp [h2]), rfl⟩
  · clear hC
    go_enter Tryz.func111, Tryz.ntmps111
    go_wp2
    go_ret
    exact ⟨ret_bool ((decide_eq_false (fun e => by omega)).symm), rfl⟩

/-- What Up answers. -/
def upR (p : Pool) (f : Int) : Int × Pool := if takenB p f = true then (0, p.up f.toNat) else (1, p)
set_option maxHeartbeats 400000 in
theorem qup_any (f : Int) (h : DpIs w B z p) (hcap : ∀ f, p.cnt f < 1000000000000) :
    Calls Tryz.prog 65 #[.pointer (some ⟨z.q, 0, none⟩), .int .i64 f] w fun e w' => e = .returned (.int .i64 (upR p f).1) ∧ DpNext w B z p.n w' z (upR p f).2 := by
  have HT := Lib.hid (qtaken_any f h)
  have H := Lib.hid h
  obtain ⟨h0, -⟩ := h.c
  unfold upR
  cases ht : takenB p f with
  | true =>
    obtain ⟨g, rfl, hg, hpos⟩ := takenB_yes ht
    have hc := row_cell h.counts hg
    have hf := one_free h.counts g
    have hcg := hcap g
    have hn := h.few
    rw [ht] at HT
    clear h ht hcap
    rw [if_pos rfl, Int.toNat_natCast]
    go_enter Tryz.func65, Tryz.ntmps65
    go_wp2_with (go_at_call 111; refine (HT.out).mono ?_; rintro e w1 ⟨rfl, rfl⟩)
    go_ret
    exact ⟨rfl, H.out.setCnt hg⟩
  | false =>
    rw [ht] at HT
    clear h ht hcap
    rw [if_neg (by simp)]
    go_enter Tryz.func65, Tryz.ntmps65
    go_wp2_with (go_at_call 111; refine (HT.out).mono ?_; rintro e w1 ⟨rfl, rfl⟩)
    go_ret
    exact ⟨rfl, DpNext.refl H.out⟩
/-- What Down answers. -/
def downR (p : Pool) (f : Int) : Int × Pool := if takenB p f = true then (0, p.down f.toNat) else (1, p)
set_option maxHeartbeats 400000 in
theorem qdown_any (f : Int) (h : DpIs w B z p) (hcap : ∀ f, p.cnt f < 1000000000000) :
    Calls Tryz.prog 46 #[.pointer (some ⟨z.q, 0, none⟩), .int .i64 f] w fun e w' => e = .returned (.int .i64 (downR p f).1) ∧ DpNext w B z p.n w' z (downR p f).2 := by
  have HT := Lib.hid (qtaken_any f h)
  have H := Lib.hid h
  obtain ⟨h0, -⟩ := h.c
  unfold downR
  cases ht : takenB p f with
  | true =>
    obtain ⟨g, rfl, hg, hpos⟩ := takenB_yes ht
    have hc := row_cell h.counts hg
    have hf := one_free h.counts g
    have hcg := hcap g
    have hn := h.few
    rw [ht] at HT
    clear h ht hcap
    rw [if_pos rfl, Int.toNat_natCast]
    go_enter Tryz.func46, Tryz.ntmps46
    go_wp2_with (go_at_call 111; refine (HT.out).mono ?_; rintro e w1 ⟨rfl, rfl⟩)
    go_ret
    rw [show ((p.cnt g : Int) - 1) = ((p.cnt g - 1 : Nat) : Int) from by omega]
    exact ⟨rfl, H.out.setCnt hg⟩
  | false =>
    rw [ht] at HT
    clear h ht hcap
    rw [if_neg (by simp)]
    go_enter Tryz.func46, Tryz.ntmps46
    go_wp2_with (go_at_call 111; refine (HT.out).mono ?_; rintro e w1 ⟨rfl, rfl⟩)
    go_ret
    exact ⟨rfl, DpNext.refl H.out⟩
theorem qcount_any (f : Nat) (h : DpIs w B z p) (hf : f < p.n) :
    Calls Tryz.prog 55 #[.pointer (some ⟨z.q, 0, none⟩), .int .i64 (f : Int)] w fun e w' => e = .returned (.int .i64 (p.cnt f : Int)) ∧ w = w' := by
  obtain ⟨h0, -⟩ := h.c
  have hc := row_cell h.counts hf
  have hn := h.few
  clear h
  go_enter Tryz.func55, Tryz.ntmps55
  go_wp2
  go_ret
  exact ⟨rfl, rfl⟩
theorem qsize_any (h : DpIs w B z p) : Calls Tryz.prog 54 #[.pointer (some ⟨z.q, 0, none⟩)] w fun e w' => e = .returned (.int .i64 (p.n : Int)) ∧ w = w' := by
  obtain ⟨h0, -⟩ := h.c
  clear h
  go_enter Tryz.func54, Tryz.ntmps54
  go_wp2
  go_ret
  exact ⟨rfl, rfl⟩
set_option maxHeartbeats 400000 in
theorem qfree_any (h : DpIs w B z p) : Calls Tryz.prog 70 #[.pointer (some ⟨z.q, 0, none⟩)] w fun e w' => e = .returned (.int .i64 (p.left : Int)) ∧ w = w' := by
  obtain ⟨h0, -⟩ := h.c
  have hn := h.few
  have H := Lib.hid h
  clear h
  go_enter Tryz.func70, Tryz.ntmps70
  go_wp2_with fail
  go_loopw [3, 4] (fun v i wr => ∃ k : Nat, k ≤ p.n ∧ v = .int .i64 (freeTo p.cnt k : Int) ∧ i = .int .i64 (k : Int) ∧ wr = w) (fun _ i _ => p.n - (intOf i).toNat)
  case atStart => exact ⟨0, Nat.zero_le _, rfl, rfl, rfl⟩
  case round =>
    obtain ⟨k, hk, rfl, rfl, rfl⟩ := hrel
    by_cases hlt : k < p.n
    · have hc := row_cell H.out.counts hlt
      have hfl := freeTo_le p.cnt k
      have hfs : freeTo p.cnt (k + 1) = freeTo p.cnt k + if p.cnt k = 0 then 1 else 0 := rfl
      by_cases h0 : p.cnt k = 0
      · rw [if_pos h0] at hfs
        have hb : ((p.cnt k : Int) == 0) = true := by rw [beq_iff_eq]; omega
        have HFS := Lib.hid hfs
        clear h0 hfs
        go_wp2_with fail
        go_roundw
        case rel => exact ⟨k + 1, by omega, by rw [HFS.out]; go_num, by go_num, by trivial⟩
        case measure => (simp [intOf]; omega)
      · rw [if_neg h0] at hfs
        have hb : ((p.cnt k : Int) == 0) = false := by rw [beq_eq_false_iff_ne]; omega
        have HFS := Lib.hid hfs
        clear h0 hfs
        go_wp2_with fail
        go_roundw
        case rel => exact ⟨k + 1, by omega, by rw [HFS.out]; go_num, by go_num, by trivial⟩
        case measure => (simp [intOf]; omega)
    · obtain rfl : k = p.n := by omega
      go_wp2_with fail
      go_ret
      exact ⟨rfl, rfl⟩
/-- What Take answers. -/
def takeR (p : Pool) : Int × Nat × Pool := match p.lowest with
  | some f => (0, f, p.takeAt f)
  | none => (4, 0, p)
set_option maxHeartbeats 400000 in
theorem qtake_any (h : DpIs w B z p) :
    Calls Tryz.prog 105 #[.pointer (some ⟨z.q, 0, none⟩)] w fun e w' => ∃ z', e = .returned (.tuple #[.int .i64 ((takeR p).2.1 : Nat), .int .i64 (takeR p).1]) ∧ DpNext w B z p.n w' z' (takeR p).2.2 := by
  obtain ⟨h0, h1⟩ := h.c
  have hn := h.few
  have H := Lib.hid h
  clear h
  go_enter Tryz.func105, Tryz.ntmps105
  go_wp2_with fail
  go_loopw [4] (fun i wr => ∃ k : Nat, k ≤ p.n ∧ i = .int .i64 (k : Int) ∧ (∀ g, g < k → p.cnt g ≠ 0) ∧ wr = w) (fun i _ => p.n - (intOf i).toNat)
  case atStart => exact ⟨0, Nat.zero_le _, rfl, fun g hg => absurd hg (Nat.not_lt_zero _), rfl⟩
  case round =>
    obtain ⟨k, hk, rfl, hno, rfl⟩ := hrel
    have HNO := Lib.hid hno
    clear hno
    by_cases hlt : k < p.n
    · have hc := row_cell H.out.counts hlt
      by_cases hz : p.cnt k = 0
      · have hb : ((p.cnt k : Int) == 0) = true := by rw [beq_iff_eq]; omega
        have hT : takeR p = (0, k, p.takeAt k) := by unfold takeR; rw [lowest_is hlt hz HNO.out]
        have HT := Lib.hid hT
        have hf := one_free H.out.counts k
        have h1s := H.out.setCnt (f := k) (x := 1) hlt
        have h2s := h1s.is.noRow (f := k) hlt
        have HN := Lib.hid (h1s.trans h2s)
        obtain ⟨n1, n2, n3, n4⟩ := H.out.apart
        have h1' : (wr.setCell ⟨z.kc, k, none⟩ (.int .i64 1)).cell? ⟨z.q, 1, none⟩ = some (.slice (some ⟨z.kb, 0, none⟩) p.n p.n) := h1s.is.c.2
        have hfb : (wr.setCell ⟨z.kc, k, none⟩ (.int .i64 1)).frozen? ⟨z.kb, k, none⟩ = false := one_free h1s.is.rows k
        have hcb : (wr.setCell ⟨z.kc, k, none⟩ (.int .i64 1)).cell? ⟨z.kb, k, none⟩ = some (.slice (z.R k) (z.l k) (z.cp k)) := row_cell h1s.is.rows hlt
        clear hT hz h1s h2s
        go_wp2_with fail
        go_ret2
        rw [HT.out]
        exact ⟨rfl, _, HN.out⟩
      · have hb : ((p.cnt k : Int) == 0) = false := by rw [beq_eq_false_iff_ne]; omega
        have HZ := Lib.hid hz
        clear hz
        go_wp2_with fail
        go_roundw
        case rel => exact ⟨k + 1, by omega, by go_num, fun g hg => by (by_cases e : g = k; (subst e; exact HZ.out); exact HNO.out g (by omega)), by trivial⟩
        case measure => (simp [intOf]; omega)
    · obtain rfl : k = p.n := by omega
      have hT : takeR p = (4, 0, p) := by unfold takeR; rw [lowest_not HNO.out]
      have HT := Lib.hid hT
      clear hT
      go_wp2_with fail
      go_ret2
      rw [HT.out]
      exact ⟨z, rfl, DpNext.refl H.out⟩

end Go.Proofs.YtkkmcnngpahfaaaGreatDoor
