/- Regions: what an address has: the walk. -/
import Derived.Test.YtdkhgofnhemhmaaFolB
import Derived.Test.YtdkhgofnhemhmaaCutE
namespace Go.Proofs.Ytdkhgofnhemhmaa
open Go.RowKit Go.Sort
set_option linter.unusedSimpArgs false
set_option linter.unusedVariables false

def Rg.atf (l : List Reg) (a : Int) : Reg × Bool := if (Rg.find l a).2 = true then (Rg.hit a (Rg.find l a).1, true) else (zeroReg, false)
theorem atf_ats {l k : List Reg} {a b : Int} : Rg.atf l a = match Rg.ats l a with | [] => (zeroReg, false) | x :: _ => (x, true) := by
  have e : (Rg.ats l a).head? = (l.find? (Rg.holds · a)).map (Rg.hit a) := by
    unfold Rg.ats
    rw [List.head?_map, List.head?_filter]
  unfold Rg.atf Rg.find
  cases h : l.find? (Rg.holds · a) with
  | none =>
    rw [h] at e
    cases h2 : Rg.ats l a with
    | nil => simp
    | cons x t => rw [h2] at e; simp at e
  | some r =>
    rw [h] at e
    cases h2 : Rg.ats l a with
    | nil => rw [h2] at e; simp at e
    | cons x t => rw [h2] at e; simp at e; simp [e]

set_option maxHeartbeats 4000000 in
theorem at_any (A : Option Addr) (n cap : Nat) (a : Int) (w : World) (l : List Reg) (hl : RSl w w.heap.size A n cap l) :
    Calls Try.prog 50 #[.slice A n cap, .int .u64 a] w
      fun e w' => e = .returned (.tuple #[.agg #[.int .u64 ((Rg.atf l a).1).fr, .int .u64 ((Rg.atf l a).1).to, .int .u8 ((Rg.atf l a).1).prot, .int .i64 ((Rg.atf l a).1).ino, .int .u64 ((Rg.atf l a).1).off], .bool (Rg.atf l a).2]) ∧ Below w.heap.size w w' := by
  have hn := hl.few
  go_enter Try.func50, Try.ntmps50
  go_wp2
  go_loopw [6] (fun i wr => ∃ k : Nat, k ≤ n ∧ i = .int .i64 k ∧ Below (w.heap.size + 1) (w.alloc (.cells #[.int .u64 0, .int .u64 0, .int .u8 0, .int .i64 0, .int .u64 0] 25)) wr ∧ NoneYet l a k) (fun i _ => n - (intOf i).toNat)
  case atStart => exact ⟨0, Nat.zero_le _, rfl, Below.refl _ _, NoneYet.zero l a⟩
  case round =>
    obtain ⟨k, hk, rfl, hB, hno⟩ := hrel
    have hBs := hB.size
    simp at hBs
    have hz0 : w.heap.size < wr.heap.size := by omega
    have hcz : ∀ o, wr.cell? ⟨w.heap.size, o, none⟩ = (#[.int .u64 0, .int .u64 0, .int .u8 0, .int .i64 0, .int .u64 0] : Array Value)[o]? := fun o => by
      rw [hB.cell (p := ⟨w.heap.size, o, none⟩) (Nat.lt_succ_self _)]; simp
    have hfz : ∀ o, wr.frozen? ⟨w.heap.size, o, none⟩ = false := fun o => by
      rw [hB.frozen (p := ⟨w.heap.size, o, none⟩) (Nat.lt_succ_self _)]; simp
    have hBw : Below w.heap.size w wr := ((Below.refl w.heap.size w).alloc (Nat.le_refl _) _).trans (hB.mono (by omega))
    by_cases hlt : k < n
    · obtain ⟨r, hr⟩ : ∃ r, l[k]? = some r := ⟨_, List.getElem?_eq_getElem (by have := hl.len; omega)⟩
      obtain ⟨b, off, rfl, hb, hra⟩ := hl.at_ k r hr
      obtain ⟨h0, h1, h2, h3, h4⟩ := hra.below hBw hb
      have HR := Lib.hid hr
      clear hr hra
      by_cases hh : r.fr ≤ a ∧ a < r.to
      · have HH := Lib.hid (hno.found HR.out (by simp [Rg.holds, hh]))
        obtain ⟨g1, g2⟩ := hh
        have hz1 : ¬ w.heap.size = wr.heap.size := by omega
        have hz2 : ¬ wr.heap.size = w.heap.size := by omega
        have hbz : ¬ b = wr.heap.size := by omega
        by_cases hi : r.ino = -1
        · have hd : (r.ino != -1) = false := by simp [hi]
          have HX : Hid (Rg.atf l a = (⟨0, 0, r.prot, r.ino, r.off⟩, true)) := Lib.hid (by simp [Rg.atf, HH.out, Rg.hit, hi])
          clear hi
          go_wp2
          refine bodyPost_ret (v := .tuple #[.agg #[.int .u64 0, .int .u64 0, .int .u8 r.prot, .int .i64 r.ino, .int .u64 r.off], .bool true]) (by simp [results, Try.results50, go_sem, hz0, hz1, hz2, hcz, hfz]) rfl ⟨?_, ?_⟩
          · rw [HX.out]
          · ((repeat' (with_reducible (first | assumption | (refine Below.alloc ?_ ?_ _) | (refine Below.setCell ?_ ?_ _) | (refine Below.drew ?_) | (refine below_drewN ?_ _) | exact Below.refl _ _ | (refine Below.trans ?_ (Below.mono (by assumption) ?_))))) <;> (try simp) <;> (try omega))
        · have hd : (r.ino != -1) = true := by simp [hi]
          have HX : Hid (Rg.atf l a = (⟨0, 0, r.prot, r.ino, w64 (r.off + w64 (a - r.fr))⟩, true)) := Lib.hid (by simp [Rg.atf, HH.out, Rg.hit, hi])
          clear hi
          go_wp2
          refine bodyPost_ret (v := .tuple #[.agg #[.int .u64 0, .int .u64 0, .int .u8 r.prot, .int .i64 r.ino, .int .u64 (w64 (r.off + w64 (a - r.fr)))], .bool true]) (by simp [results, Try.results50, go_sem, hz0, hz1, hz2, hcz, hfz]; rfl) rfl ⟨?_, ?_⟩
          · rw [HX.out]
          · ((repeat' (with_reducible (first | assumption | (refine Below.alloc ?_ ?_ _) | (refine Below.setCell ?_ ?_ _) | (refine Below.drew ?_) | (refine below_drewN ?_ _) | exact Below.refl _ _ | (refine Below.trans ?_ (Below.mono (by assumption) ?_))))) <;> (try simp) <;> (try omega))
      · have HH := Lib.hid (hno.succ HR.out (by simp [Rg.holds]; omega))
        by_cases g1 : r.fr ≤ a
        · have g2 : ¬ a < r.to := fun h => hh ⟨g1, h⟩
          clear hh
          go_wp2
          go_roundw
          case rel => exact ⟨k + 1, by omega, by go_num, by ((repeat' (with_reducible (first | assumption | (refine Below.alloc ?_ ?_ _) | (refine Below.setCell ?_ ?_ _) | (refine Below.drew ?_) | (refine below_drewN ?_ _) | exact Below.refl _ _ | (refine Below.trans ?_ (Below.mono (by assumption) ?_))))) <;> (try simp) <;> (try omega)), HH.out⟩
          case measure => simp [intOf]; omega
        · clear hh
          go_wp2
          go_roundw
          case rel => exact ⟨k + 1, by omega, by go_num, by ((repeat' (with_reducible (first | assumption | (refine Below.alloc ?_ ?_ _) | (refine Below.setCell ?_ ?_ _) | (refine Below.drew ?_) | (refine below_drewN ?_ _) | exact Below.refl _ _ | (refine Below.trans ?_ (Below.mono (by assumption) ?_))))) <;> (try simp) <;> (try omega)), HH.out⟩
          case measure => simp [intOf]; omega
    · have HH := Lib.hid (hno.all (by have := hl.len; omega))
      go_wp2
      refine bodyPost_ret (v := .tuple #[.agg #[.int .u64 (zeroReg).fr, .int .u64 (zeroReg).to, .int .u8 (zeroReg).prot, .int .i64 (zeroReg).ino, .int .u64 (zeroReg).off], .bool false]) (by simp [results, Try.results50, go_sem, hz0, hcz, hfz, zeroReg]) rfl ⟨?_, ?_⟩
      · rw [show Rg.atf l a = (zeroReg, false) by simp [Rg.atf, HH.out]]
      · ((repeat' (with_reducible (first | assumption | (refine Below.alloc ?_ ?_ _) | (refine Below.setCell ?_ ?_ _) | (refine Below.drew ?_) | (refine below_drewN ?_ _) | exact Below.refl _ _ | (refine Below.trans ?_ (Below.mono (by assumption) ?_))))) <;> (try simp) <;> (try omega))

end Go.Proofs.Ytdkhgofnhemhmaa
