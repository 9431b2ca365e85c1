/- Regions: own of the statements; Gap; without of the references. -/
import Derived.Test.YtadmeeabbkpmlaaGreatDoorRegI
namespace Go.Proofs.YtadmeeabbkpmlaaGreatDoor
open Go.RowKit Go.Sort
set_option linter.unusedSimpArgs false
set_option linter.unusedVariables false
set_option maxRecDepth 100000

theorem RSl.more {w : World} {B B' : Nat} {A : Option Addr} {n cap : Nat} {l : List Reg} (h : RSl w B A n cap l) (hB : B ≤ B') : RSl w B' A n cap l :=
  ⟨h.len, h.cap, h.few, fun k r hr => by
    obtain ⟨b, off, e, hb, hra⟩ := h.at_ k r hr
    exact ⟨b, off, e, by omega, hra⟩⟩

/-- A row of the call's own that lies below another base stays what it is. -/
theorem OwnR.stays {w w' : World} {base B : Nat} {A : Option Addr} {cap : Nat} {l : List Reg} (h : OwnR w base A cap l) (hb : Below B w w') (hr : ∀ b, A.map (·.block) = some b → b < B) : OwnR w' base A cap l := by
  refine ⟨h.1, ?_⟩
  rcases h.2 with h2 | ⟨g, cap, cur, h1, h2, h3, h4⟩
  · exact .inl h2
  · refine .inr ⟨g, cap, cur, h1, h2, ?_, h4⟩
    injection h1 with e1
    rw [hb.block g (hr g (by rw [e1]; rfl))]
    exact h3

def r9 : Reg := ⟨0, 9, 0, 0, 0⟩
def r5 : Reg := ⟨5, 0, 0, 0, 0⟩

/-- The lowest address with room, from an address on. -/
def Rg.gapL : List Reg → Int → Int → Int × Int
  | [], s, a => if 140737488355328 < a ∨ 140737488355328 - a < s then (0, 4) else (a, 0)
  | r :: l, s, a => if a < r.to then (if a < r.fr ∧ s ≤ r.fr - a then (a, 0) else Rg.gapL l s r.to) else Rg.gapL l s a
def Rg.gap (l : List Reg) (s a : Int) : Int × Int := if Rg.right l = false ∨ s = 0 ∨ ¬ s % 4096 = 0 ∨ ¬ a % 4096 = 0 then (0, 1) else Rg.gapL l s a

def GapTo (l : List Reg) (s a : Int) (k : Nat) (a' : Int) : Prop := Rg.gapL (l.drop k) s a' = Rg.gapL l s a
theorem GapTo.skip {l : List Reg} {s a a' : Int} {k : Nat} {r : Reg} (h : GapTo l s a k a') (hr : l[k]? = some r) (h1 : ¬ a' < r.to) : GapTo l s a (k + 1) a' := by
  unfold GapTo at *
  rw [← h, drop_get hr]
  simp [Rg.gapL, h1]
theorem GapTo.on {l : List Reg} {s a a' : Int} {k : Nat} {r : Reg} (h : GapTo l s a k a') (hr : l[k]? = some r) (h1 : a' < r.to) (h2 : ¬ (a' < r.fr ∧ s ≤ r.fr - a')) : GapTo l s a (k + 1) r.to := by
  unfold GapTo at *
  rw [← h, drop_get hr]
  simp only [Rg.gapL, if_pos h1, if_neg h2]
theorem GapTo.here {l : List Reg} {s a a' : Int} {k : Nat} {r : Reg} (h : GapTo l s a k a') (hr : l[k]? = some r) (h1 : a' < r.to) (h2 : a' < r.fr) (h3 : s ≤ r.fr - a') : Rg.gapL l s a = (a', 0) := by
  unfold GapTo at h
  rw [← h, drop_get hr]
  simp only [Rg.gapL, if_pos h1, if_pos (And.intro h2 h3)]
theorem GapTo.last {l : List Reg} {s a a' : Int} {k : Nat} (h : GapTo l s a k a') (hk : l.length ≤ k) : Rg.gapL l s a = Rg.gapL [] s a' := by
  unfold GapTo at h
  rw [← h, List.drop_of_length_le hk]
theorem gap_bad {l : List Reg} {s a : Int} (h : Rg.right l = false ∨ s = 0 ∨ ¬ s % 4096 = 0 ∨ ¬ a % 4096 = 0) : Rg.gap l s a = (0, 1) := by unfold Rg.gap; rw [if_pos h]
theorem gap_good {l : List Reg} {s a : Int} (h : ¬ (Rg.right l = false ∨ s = 0 ∨ ¬ s % 4096 = 0 ∨ ¬ a % 4096 = 0)) : Rg.gap l s a = Rg.gapL l s a := by unfold Rg.gap; rw [if_neg h]

theorem ret_gap {p : Int × Int} {a b : Int} (h : p = (a, b)) : Ending.returned (.tuple #[.int .u64 a, .int .i64 b]) = .returned (.tuple #[.int .u64 p.1, .int .i64 p.2]) := by rw [h]

set_option maxHeartbeats 2000000 in
theorem gap_any (A : Option Addr) (n cap : Nat) (s a : Int) (w : World) (l : List Reg) (hl : RSl w w.heap.size A n cap l) (hok : AllOk l) (hs0 : 0 ≤ s) (ha0 : 0 ≤ a) (ha1 : a ≤ 18446744073709551615) :
    Calls Tryz.prog 76 #[.slice A n cap, .int .u64 s, .int .u64 a] w
      fun e w' => e = .returned (.tuple #[.int .u64 (Rg.gap l s a).1, .int .i64 (Rg.gap l s a).2]) ∧ Below w.heap.size w w' := by
  have hln := Lib.hid hl.len
  have hfew := hl.few
  have hR := right_any A n cap w l hl hok
  cases hrl : Rg.right l with
  | false =>
    have HH := Lib.hid (gap_bad (l := l) (s := s) (a := a) (.inl hrl))
    rw [hrl] at hR
    have HR := Lib.hid hR
    clear hR hrl
    go_enter Tryz.func76, Tryz.ntmps76
    go_wp2_with (go_at_call 130; refine (HR.out).mono ?_; rintro e w1 ⟨rfl, hb1⟩)
    go_ret2
    exact ⟨ret_gap HH.out, hb1⟩
  | true =>
    rw [hrl] at hR
    have HR := Lib.hid hR
    clear hR
    by_cases hbad : s = 0 ∨ ¬ s % 4096 = 0 ∨ ¬ a % 4096 = 0
    · have HH := Lib.hid (gap_bad (l := l) (s := s) (a := a) (.inr hbad))
      have HB := Lib.hid hbad
      clear hbad hrl
      go_enter Tryz.func76, Tryz.ntmps76
      go_wp2_with (go_at_call 130; refine (HR.out).mono ?_; rintro e w1 ⟨rfl, hb1⟩)
      all_goals first
        | (go_ret2; exact ⟨ret_gap HH.out, hb1⟩)
        | (exfalso; have hb := HB.out; simp_all; done)
    · have HH := Lib.hid (gap_good (l := l) (s := s) (a := a) (by rw [hrl]; simp; omega))
      have g1 : (s == 0) = false := by simp; omega
      have g2 : s % 4096 = 0 := by omega
      have g3 : a % 4096 = 0 := by omega
      have g4 : ¬ s = 0 := by omega
      clear hbad hrl
      go_enter Tryz.func76, Tryz.ntmps76
      go_wp2_with (go_at_call 130; refine (HR.out).mono ?_; rintro e w1 ⟨rfl, hb1⟩)
      go_loopw [2, 29] (fun v i wr => ∃ k : Nat, k ≤ n ∧ i = .int .i64 k ∧ Below w.heap.size w wr ∧ ∃ a' : Int, v = .int .u64 a' ∧ 0 ≤ a' ∧ a' ≤ 18446744073709551615 ∧ GapTo l s a k a') (fun _ i _ => n - (intOf i).toNat)
      case atStart => exact ⟨0, Nat.zero_le _, rfl, hb1, a, rfl, ha0, ha1, rfl⟩
      case round =>
        obtain ⟨k, hk, rfl, hB, a', rfl, hp0, hp1, hgt⟩ := hrel
        have hBs := hB.size
        have GT := Lib.hid hgt
        clear hgt
        by_cases hlt : k < n
        · obtain ⟨r, hr⟩ : ∃ r, l[k]? = some r := ⟨_, List.getElem?_eq_getElem (by have := hln.out; omega)⟩
          obtain ⟨b, off, rfl, hb, hra⟩ := hl.at_ k r hr
          obtain ⟨h0, h1, h2, h3, h4⟩ := hra.below hB hb
          have hrok := hok.at_ hr
          have r1 := hrok.fr0
          have r2 := hrok.fr1
          have r3 := hrok.to0
          have r4 := hrok.to1
          have HX := Lib.hid hr
          clear hr hra hrok hl
          by_cases c1 : a' < r.to
          · by_cases c2 : a' < r.fr
            · by_cases c3 : s ≤ r.fr - a'
              · have hfin := Lib.hid (GT.out.here HX.out c1 c2 c3)
                go_wp2
                go_ret2
                exact ⟨ret_gap (HH.out.trans hfin.out), by ((repeat' (with_reducible (first | assumption | (refine Below.alloc ?_ ?_ _) | (refine Below.setCell ?_ ?_ _) | (refine Below.drew ?_) | (refine below_drewN ?_ _) | exact Below.refl _ _ | (refine Below.trans ?_ (Below.mono (by assumption) ?_))))) <;> (try simp) <;> (try omega))⟩
              · have hfin := Lib.hid (GT.out.on HX.out c1 (fun h => c3 h.2))
                go_wp2
                go_roundw
                case rel => exact ⟨k + 1, by omega, by go_num, by ((repeat' (with_reducible (first | assumption | (refine Below.alloc ?_ ?_ _) | (refine Below.setCell ?_ ?_ _) | (refine Below.drew ?_) | (refine below_drewN ?_ _) | exact Below.refl _ _ | (refine Below.trans ?_ (Below.mono (by assumption) ?_))))) <;> (try simp) <;> (try omega)), r.to, rfl, r3, r4, hfin.out⟩
                case measure => simp [intOf]; omega
            · have hfin := Lib.hid (GT.out.on HX.out c1 (fun h => c2 h.1))
              go_wp2
              go_roundw
              case rel => exact ⟨k + 1, by omega, by go_num, by ((repeat' (with_reducible (first | assumption | (refine Below.alloc ?_ ?_ _) | (refine Below.setCell ?_ ?_ _) | (refine Below.drew ?_) | (refine below_drewN ?_ _) | exact Below.refl _ _ | (refine Below.trans ?_ (Below.mono (by assumption) ?_))))) <;> (try simp) <;> (try omega)), r.to, rfl, r3, r4, hfin.out⟩
              case measure => simp [intOf]; omega
          · have hfin := Lib.hid (GT.out.skip HX.out c1)
            go_wp2
            go_roundw
            case rel => exact ⟨k + 1, by omega, by go_num, by ((repeat' (with_reducible (first | assumption | (refine Below.alloc ?_ ?_ _) | (refine Below.setCell ?_ ?_ _) | (refine Below.drew ?_) | (refine below_drewN ?_ _) | exact Below.refl _ _ | (refine Below.trans ?_ (Below.mono (by assumption) ?_))))) <;> (try simp) <;> (try omega)), a', rfl, hp0, hp1, hfin.out⟩
            case measure => simp [intOf]; omega
        · have hfin := Lib.hid (GT.out.last (by have := hln.out; omega))
          by_cases c1 : 140737488355328 < a'
          · go_wp2
            go_ret2
            exact ⟨ret_gap (HH.out.trans (hfin.out.trans (by simp [Rg.gapL, c1]))), by ((repeat' (with_reducible (first | assumption | (refine Below.alloc ?_ ?_ _) | (refine Below.setCell ?_ ?_ _) | (refine Below.drew ?_) | (refine below_drewN ?_ _) | exact Below.refl _ _ | (refine Below.trans ?_ (Below.mono (by assumption) ?_))))) <;> (try simp) <;> (try omega))⟩
          · by_cases c2 : 140737488355328 - a' < s
            · go_wp2
              go_ret2
              exact ⟨ret_gap (HH.out.trans (hfin.out.trans (by simp [Rg.gapL, c1, c2]))), by ((repeat' (with_reducible (first | assumption | (refine Below.alloc ?_ ?_ _) | (refine Below.setCell ?_ ?_ _) | (refine Below.drew ?_) | (refine below_drewN ?_ _) | exact Below.refl _ _ | (refine Below.trans ?_ (Below.mono (by assumption) ?_))))) <;> (try simp) <;> (try omega))⟩
            · go_wp2
              go_ret2
              exact ⟨ret_gap (HH.out.trans (hfin.out.trans (by simp [Rg.gapL, c1, c2]))), by ((repeat' (with_reducible (first | assumption | (refine Below.alloc ?_ ?_ _) | (refine Below.setCell ?_ ?_ _) | (refine Below.drew ?_) | (refine below_drewN ?_ _) | exact Below.refl _ _ | (refine Below.trans ?_ (Below.mono (by assumption) ?_))))) <;> (try simp) <;> (try omega))⟩

end Go.Proofs.YtadmeeabbkpmlaaGreatDoor
