/- Regions: the search for a region's place. -/
import Derived.Test.YtadmeeabbkpmlaaGreatDoorRegK
namespace Go.Proofs.YtadmeeabbkpmlaaGreatDoor
open Go.RowKit Go.Sort
set_option linter.unusedSimpArgs false
set_option linter.unusedVariables false
set_option maxRecDepth 100000

/-- What the search needs of memory: where the list's variable lies, the list, the region's box. -/
structure Srch (w : World) (go gr : Nat) (A : Option Addr) (cap : Nat) (out : List Reg) (r : Reg) (B : Nat) : Prop where
  cell : w.cell? ⟨go, 0, none⟩ = some (.slice A out.length cap)
  goB : go < B
  box : w.cell? ⟨gr, 0, none⟩ = some (.int .u64 r.fr)
  grB : gr < B
  rows : ∀ k x, out[k]? = some x → ∃ g, A = some ⟨g, 0, none⟩ ∧ g < B ∧ w.cell? ⟨g, k * 5, none⟩ = some (.int .u64 x.fr)

theorem Srch.below {w w' : World} {go gr : Nat} {A : Option Addr} {cap : Nat} {out : List Reg} {r : Reg} {B : Nat} (h : Srch w go gr A cap out r B) (hb : Below B w w') : Srch w' go gr A cap out r B :=
  ⟨(hb.cell (p := ⟨go, 0, none⟩) h.goB).trans h.cell, h.goB, (hb.cell (p := ⟨gr, 0, none⟩) h.grB).trans h.box, h.grB, fun k x hx => by
    obtain ⟨g, e, hg, hc⟩ := h.rows k x hx
    exact ⟨g, e, hg, (hb.cell (p := ⟨g, k * 5, none⟩) hg).trans hc⟩⟩

set_option maxHeartbeats 400000 in
theorem putf_any (go gr : Nat) (A : Option Addr) (cap : Nat) (out : List Reg) (r x : Reg) (B k : Nat) (w : World) (h : Srch w go gr A cap out r B) (hx : out[k]? = some x) (hf : out.length ≤ 100000) :
    Calls Tryz.prog 180 #[.int .i64 k, .pointer (some ⟨go, 0, none⟩), .pointer (some ⟨gr, 0, none⟩)] w fun e w' => e = .returned (.bool (decide (r.fr < x.fr))) ∧ Below w.heap.size w w' := by
  obtain ⟨g, rfl, hg, hc⟩ := h.rows k x hx
  have h0 := h.cell
  have h1 := h.box
  have hk : k < out.length := (List.getElem?_eq_some_iff.1 hx).1
  clear h hx
  generalize out.length = n at *
  have hk0 : (0 : Int) ≤ (k : Int) := by omega
  have hk1 : (k : Int) < (n : Int) := by omega
  go_enter Tryz.func180, Tryz.ntmps180
  go_wp2
  go_quiet (fail)
  go_wp2
  go_ret
  exact ⟨rfl, by ((repeat' (with_reducible (first | assumption | (refine Below.alloc ?_ ?_ _) | (refine Below.setCell ?_ ?_ _) | (refine Below.drew ?_) | (refine below_drewN ?_ _) | exact Below.refl _ _ | (refine Below.trans ?_ (Below.mono (by assumption) ?_))))) <;> (try simp) <;> (try omega))⟩

def SortedFr (l : List Reg) : Prop := ∀ (i j : Nat) (a b : Reg), i < j → l[i]? = some a → l[j]? = some b → a.fr ≤ b.fr
def SplitFr (l : List Reg) (r : Reg) (i j : Nat) : Prop := (∀ (k : Nat) (a : Reg), k < i → l[k]? = some a → a.fr ≤ r.fr) ∧ (∀ (k : Nat) (a : Reg), j ≤ k → l[k]? = some a → r.fr < a.fr)

theorem SplitFr.start (l : List Reg) (r : Reg) : SplitFr l r 0 l.length := ⟨fun k a h => by omega, fun k a h e => by
  have := (List.getElem?_eq_some_iff.1 e).1; omega⟩
theorem SplitFr.up {l : List Reg} {r x : Reg} {i j h : Nat} (hs : SortedFr l) (H : SplitFr l r i j) (hx : l[h]? = some x) (hlt : ¬ r.fr < x.fr) : SplitFr l r (h + 1) j :=
  ⟨fun k a hk e => by
    by_cases c : k = h
    · subst c
      rw [hx] at e
      injection e with e
      subst e
      omega
    · have := hs k h a x (by omega) e hx
      omega, H.2⟩
theorem SplitFr.down {l : List Reg} {r x : Reg} {i j h : Nat} (hs : SortedFr l) (H : SplitFr l r i j) (hx : l[h]? = some x) (hlt : r.fr < x.fr) : SplitFr l r i h :=
  ⟨H.1, fun k a hk e => by
    by_cases c : k = h
    · subst c
      rw [hx] at e
      injection e with e
      subst e
      omega
    · have := hs h k x a (by omega) hx e
      omega⟩

set_option maxHeartbeats 1000000 in
theorem search_any (go gr : Nat) (A : Option Addr) (cap : Nat) (out : List Reg) (r : Reg) (w : World) (h : Srch w go gr A cap out r w.heap.size) (hf : out.length ≤ 100000) (hs : SortedFr out) :
    Calls Tryz.prog 179 #[.int .i64 out.length, .func (.func 180) #[] #[.pointer (some ⟨go, 0, none⟩), .pointer (some ⟨gr, 0, none⟩)]] w
      fun e w' => (∃ i : Nat, i ≤ out.length ∧ e = .returned (.int .i64 i) ∧ SplitFr out r i i) ∧ Below w.heap.size w w' := by
  have H := Lib.hid h
  have HS := Lib.hid hs
  have hst := Lib.hid (SplitFr.start out r)
  have hn : Hid (out.length = out.length) := Lib.hid rfl
  clear h hs
  go_enter Tryz.func179, Tryz.ntmps179
  go_wp2
  go_loopw [5, 6] (fun i j wr => ∃ a b : Nat, a ≤ b ∧ b ≤ out.length ∧ i = .int .i64 a ∧ j = .int .i64 b ∧ Below w.heap.size w wr ∧ SplitFr out r a b) (fun i j _ => (intOf j).toNat - (intOf i).toNat)
  case atStart => exact ⟨0, out.length, by omega, Nat.le_refl _, rfl, rfl, Below.refl _ _, hst.out⟩
  case round =>
    obtain ⟨a, b, hab, hbn, rfl, rfl, hB, hsp⟩ := hrel
    have SP := Lib.hid hsp
    clear hsp
    by_cases hlt : a < b
    · obtain ⟨m, hm⟩ : ∃ m, m = (a + b) / 2 := ⟨_, rfl⟩
      obtain ⟨x, hx⟩ : ∃ x, out[m]? = some x := ⟨_, List.getElem?_eq_getElem (by omega)⟩
      have hm0 : m < b := by omega
      have hm1 : a ≤ m := by omega
      have he : Hid (((a : Int) + (b : Int)) / 2 = (m : Int)) := Lib.hid (by omega)
      have hm2 : (m : Int) < 100000 := by omega
      have HX := Lib.hid hx
      have hB2 := hB.size
      have hP := putf_any go gr A cap out r x w.heap.size m wr (H.out.below hB) hx hf
      clear hx hm
      cases hd : decide (r.fr < x.fr) with
      | true =>
        rw [hd] at hP
        have HP := Lib.hid hP
        have hfin := Lib.hid (SP.out.down HS.out HX.out (by simpa using hd))
        clear hP hd
        go_wp2_with fail
        rw [he.out]
        refine (HP.out).mono ?_
        rintro e w1 ⟨rfl, hb1⟩
        go_wp2_with fail
        go_roundw
        case rel => exact ⟨a, m, by omega, by omega, rfl, rfl, by ((repeat' (with_reducible (first | assumption | (refine Below.alloc ?_ ?_ _) | (refine Below.setCell ?_ ?_ _) | (refine Below.drew ?_) | (refine below_drewN ?_ _) | exact Below.refl _ _ | (refine Below.trans ?_ (Below.mono (by assumption) ?_))))) <;> (try simp) <;> (try omega)), hfin.out⟩
        case measure => simp [intOf]; omega
      | false =>
        rw [hd] at hP
        have HP := Lib.hid hP
        have hfin := Lib.hid (SP.out.up HS.out HX.out (by simpa using hd))
        clear hP hd
        go_wp2_with fail
        rw [he.out]
        refine (HP.out).mono ?_
        rintro e w1 ⟨rfl, hb1⟩
        go_wp2_with fail
        go_roundw
        case rel => exact ⟨m + 1, b, by omega, by omega, by go_num, rfl, by ((repeat' (with_reducible (first | assumption | (refine Below.alloc ?_ ?_ _) | (refine Below.setCell ?_ ?_ _) | (refine Below.drew ?_) | (refine below_drewN ?_ _) | exact Below.refl _ _ | (refine Below.trans ?_ (Below.mono (by assumption) ?_))))) <;> (try simp) <;> (try omega)), hfin.out⟩
        case measure => simp [intOf]; omega
    · have hab' : b = a := by omega
      have hfin : Hid (SplitFr out r a a) := Lib.hid (by have := SP.out; rw [hab'] at this; exact this)
      clear hab'
      go_wp2
      go_ret
      exact ⟨⟨a, by omega, rfl, hfin.out⟩, hB⟩

end Go.Proofs.YtadmeeabbkpmlaaGreatDoor
