/- Regions: Find and Eq of the references; which lists are right, by the program and by the references. -/
import Derived.Test.YtadmeeabbkpmlaaGreatDoorRegB
import Derived.Lib.QuietBelow
import Derived.BigQuiet
namespace Go.Proofs.YtadmeeabbkpmlaaGreatDoor
open Go.RowKit Go.Sort
set_option linter.unusedSimpArgs false
set_option linter.unusedVariables false

def Rg.okAt (l : List Reg) (k : Nat) : Bool := match l[k]? with
  | none => true
  | some r => Rg.one r && (match k with
    | 0 => true
    | j + 1 => match l[j]? with
      | none => true
      | some p => decide (p.to ≤ r.fr) && !Rg.joins p r)

def Rg.right (l : List Reg) : Bool := (List.range l.length).all (Rg.okAt l) && decide (l.length ≤ 64)

def AllOk (l : List Reg) : Prop := ∀ r ∈ l, r.Ok
theorem AllOk.at_ {l : List Reg} (h : AllOk l) {k : Nat} {r : Reg} (hr : l[k]? = some r) : r.Ok := h r (List.mem_of_getElem? hr)

def OkTo (l : List Reg) (k : Nat) : Prop := ∀ j, j < k → Rg.okAt l j = true
theorem OkTo.zero (l : List Reg) : OkTo l 0 := fun j h => by omega
theorem OkTo.succ {l : List Reg} {k : Nat} (h : OkTo l k) (h1 : Rg.okAt l k = true) : OkTo l (k + 1) := fun j hj => by
  by_cases e : j = k
  · subst e; exact h1
  · exact h j (by omega)
theorem OkTo.all {l : List Reg} {k : Nat} (h : OkTo l k) (hk : l.length ≤ k) : Rg.right l = decide (l.length ≤ 64) := by
  unfold Rg.right
  have : (List.range l.length).all (Rg.okAt l) = true := by
    rw [List.all_eq_true]
    intro x hx
    exact h x (by have := List.mem_range.1 hx; omega)
  rw [this]
  simp
theorem right_bad {l : List Reg} {k : Nat} (hk : k < l.length) (h1 : Rg.okAt l k = false) : Rg.right l = false := by
  unfold Rg.right
  have : (List.range l.length).all (Rg.okAt l) = false := by
    rw [List.all_eq_false]
    exact ⟨k, List.mem_range.2 hk, by simp [h1]⟩
  rw [this]
  rfl
theorem okAt_zero {l : List Reg} {r : Reg} (h : l[0]? = some r) : Rg.okAt l 0 = Rg.one r := by simp [Rg.okAt, h]
theorem okAt_succ {l : List Reg} {j : Nat} {p r : Reg} (h : l[j + 1]? = some r) (hp : l[j]? = some p) : Rg.okAt l (j + 1) = (Rg.one r && (decide (p.to ≤ r.fr) && !Rg.joins p r)) := by simp [Rg.okAt, h, hp]
theorem okAt_not {l : List Reg} {j : Nat} {r : Reg} (h : l[j]? = some r) (hr : Rg.one r = false) : Rg.okAt l j = false := by simp [Rg.okAt, h, hr]

theorem may_q {W : World} {r : Reg} (hr : r.Ok) (d : Nat) (os : Array Obj) : Calls Tryz.prog 175 #[.agg #[.int .u64 (r).fr, .int .u64 (r).to, .int .u8 (r).prot, .int .i64 (r).ino, .int .u64 (r).off]] (grow (redrawn W d) os)
    fun e w'' => e = .returned (.bool (Rg.one r)) ∧ ∃ p : Regrown, w'' = grow (redrawn W p.d) p.os := Calls.regrown_of (may_any r _ hr)
theorem joins_q {W : World} (r s : Reg) (d : Nat) (os : Array Obj) : Calls Tryz.prog 176 #[.agg #[.int .u64 (r).fr, .int .u64 (r).to, .int .u8 (r).prot, .int .i64 (r).ino, .int .u64 (r).off], .agg #[.int .u64 (s).fr, .int .u64 (s).to, .int .u8 (s).prot, .int .i64 (s).ino, .int .u64 (s).off]] (grow (redrawn W d) os)
    fun e w'' => e = .returned (.bool (Rg.joins r s)) ∧ ∃ p : Regrown, w'' = grow (redrawn W p.d) p.os := Calls.regrown_of (joins_any r s _)

theorem RegAt.re {W : World} {b o : Nat} {r : Reg} (h : RegAt W b o r) (d : Nat) (os : Array Obj) : RegAt (grow (redrawn W d) os) b o r :=
  ⟨cell_regrown h.c0 d os, cell_regrown h.c1 d os, cell_regrown h.c2 d os, cell_regrown h.c3 d os, cell_regrown h.c4 d os⟩
/-- A box of the call's own that holds a region. -/
structure BoxAt (w : World) (b : Nat) (r : Reg) : Prop where
  c0 : w.cell? ⟨b, 0, none⟩ = some (.int .u64 r.fr)
  c1 : w.cell? ⟨b, 1, none⟩ = some (.int .u64 r.to)
  c2 : w.cell? ⟨b, 2, none⟩ = some (.int .u8 r.prot)
  c3 : w.cell? ⟨b, 3, none⟩ = some (.int .i64 r.ino)
  c4 : w.cell? ⟨b, 4, none⟩ = some (.int .u64 r.off)
theorem BoxAt.new (W : World) (r : Reg) : BoxAt (W.alloc (.cells #[.int .u64 r.fr, .int .u64 r.to, .int .u8 r.prot, .int .i64 r.ino, .int .u64 r.off] 179)) W.heap.size r :=
  ⟨by simp, by simp, by simp, by simp, by simp⟩
theorem BoxAt.re {W : World} {b : Nat} {r : Reg} (h : BoxAt W b r) (d : Nat) (os : Array Obj) : BoxAt (grow (redrawn W d) os) b r :=
  ⟨cell_regrown h.c0 d os, cell_regrown h.c1 d os, cell_regrown h.c2 d os, cell_regrown h.c3 d os, cell_regrown h.c4 d os⟩
theorem RegAt.alloc {W : World} {b o : Nat} {r : Reg} (h : RegAt W b o r) (ob : Obj) : RegAt (W.alloc ob) b o r :=
  h.below ((Below.refl W.heap.size W).alloc (Nat.le_refl _) ob) (World.block_lt_of_cell? W _ h.c0)

set_option maxHeartbeats 1000000 in
theorem right_any (A : Option Addr) (n cap : Nat) (w : World) (l : List Reg) (hl : RSl w w.heap.size A n cap l) (hok : AllOk l) :
    Calls Tryz.prog 130 #[.slice A n cap] w
      fun e w' => e = .returned (.bool (Rg.right l)) ∧ Below w.heap.size w w' := by
  have hn := hl.few
  go_enter Tryz.func130, Tryz.ntmps130
  go_wp2
  go_loopw [7] (fun i wr => ∃ k : Nat, k ≤ n ∧ i = .int .i64 k ∧ Below w.heap.size w wr ∧ OkTo l k) (fun i _ => n - (intOf i).toNat)
  case atStart => exact ⟨0, Nat.zero_le _, rfl, Below.refl _ _, OkTo.zero l⟩
  case round =>
    obtain ⟨k, hk, rfl, hB, hno⟩ := hrel
    have hBs := hB.size
    by_cases hlt : k < n
    · obtain ⟨r, hr⟩ : ∃ r, l[k]? = some r := ⟨_, List.getElem?_eq_getElem (by have := hl.len; omega)⟩
      obtain ⟨b, off, rfl, hb, hra⟩ := hl.at_ k r hr
      have hrok := hok.at_ hr
      have hra := hra.below hB hb
      have HR := Lib.hid hr
      clear hr
      have hbox := BoxAt.new wr r
      have hbw : ∀ o, (wr.alloc o).heap.size = wr.heap.size + 1 := fun o => by simp
      have cMay := fun d os => may_q (W := wr.alloc (.cells #[.int .u64 r.fr, .int .u64 r.to, .int .u8 r.prot, .int .i64 r.ino, .int .u64 r.off] 179)) hrok d os
      have b0 := fun d os => (hbox.re d os).c0
      have b1 := fun d os => (hbox.re d os).c1
      have b2 := fun d os => (hbox.re d os).c2
      have b3 := fun d os => (hbox.re d os).c3
      have b4 := fun d os => (hbox.re d os).c4
      obtain ⟨h0, h1, h2, h3, h4⟩ := hra
      cases hone : Rg.one r with
      | false =>
        rw [hone] at cMay
        have HH := Lib.hid (right_bad (by have := hl.len; omega) (okAt_not HR.out hone))
        have CM := Lib.hid cMay
        clear cMay hone hbox
        go_wp2
        refine wp_region_quiet_below (by kernel_rfl) (by kernel_rfl) ?_; (repeat (go_big_quiet_step (exact CM.out _ _))); refine wpQuiet_nil ?_; intro _ hw'; obtain ⟨⟨dq, osq⟩, hw''⟩ := hw'; subst hw''; have hbq := below_regrown (wr.alloc (.cells #[.int .u64 r.fr, .int .u64 r.to, .int .u8 r.prot, .int .i64 r.ino, .int .u64 r.off] 179)) dq osq; generalize grow (redrawn (wr.alloc (.cells #[.int .u64 r.fr, .int .u64 r.to, .int .u8 r.prot, .int .i64 r.ino, .int .u64 r.off] 179)) dq) osq = wq at hbq ⊢
        go_wp2
        go_ret
        refine ⟨ret_boolR ?_, ?_⟩
        · rw [HH.out]
        · ((repeat' (with_reducible (first | assumption | (refine Below.alloc ?_ ?_ _) | (refine Below.setCell ?_ ?_ _) | (refine Below.drew ?_) | (refine below_drewN ?_ _) | exact Below.refl _ _ | (refine Below.trans ?_ (Below.mono (by assumption) ?_))))) <;> (try simp) <;> (try omega))
      | true =>
        rw [hone] at cMay
        have HO := Lib.hid hone
        have CM := Lib.hid cMay
        clear cMay hone hbox
        rcases Nat.eq_zero_or_pos k with e0 | hk0
        · have HH := Lib.hid (hno.succ (by have hr := HR.out; subst e0; rw [okAt_zero hr, HO.out]))
          have hk0 : k ≤ 0 := by omega
          have hk1 : decide (0 < k) = false := by simp; omega
          clear e0
          go_wp2
          refine wp_region_quiet_below (by kernel_rfl) (by kernel_rfl) ?_; (repeat (go_big_quiet_step (exact CM.out _ _))); refine wpQuiet_nil ?_; intro _ hw'; obtain ⟨⟨dq, osq⟩, hw''⟩ := hw'; subst hw''; have hbq := below_regrown (wr.alloc (.cells #[.int .u64 r.fr, .int .u64 r.to, .int .u8 r.prot, .int .i64 r.ino, .int .u64 r.off] 179)) dq osq; generalize grow (redrawn (wr.alloc (.cells #[.int .u64 r.fr, .int .u64 r.to, .int .u8 r.prot, .int .i64 r.ino, .int .u64 r.off] 179)) dq) osq = wq at hbq ⊢
          go_wp2
          go_roundw
          case rel => exact ⟨k + 1, by omega, by go_num, by ((repeat' (with_reducible (first | assumption | (refine Below.alloc ?_ ?_ _) | (refine Below.setCell ?_ ?_ _) | (refine Below.drew ?_) | (refine below_drewN ?_ _) | exact Below.refl _ _ | (refine Below.trans ?_ (Below.mono (by assumption) ?_))))) <;> (try simp) <;> (try omega)), HH.out⟩
          case measure => simp [intOf]; omega
        · obtain ⟨j, rfl⟩ : ∃ j, k = j + 1 := ⟨k - 1, by omega⟩
          obtain ⟨p, hp⟩ : ∃ p, l[j]? = some p := ⟨_, List.getElem?_eq_getElem (by have := hl.len; omega)⟩
          obtain ⟨b', off', hA, hb', hpa⟩ := hl.at_ j p hp
          obtain ⟨rfl, rfl⟩ : b' = b ∧ off' = off := by simpa [eq_comm] using hA
          have hpa := (hpa.below hB hb).alloc (.cells #[.int .u64 r.fr, .int .u64 r.to, .int .u8 r.prot, .int .i64 r.ino, .int .u64 r.off] 179)
          have p0 := fun d os => (hpa.re d os).c0
          have p1 := fun d os => (hpa.re d os).c1
          have p2 := fun d os => (hpa.re d os).c2
          have p3 := fun d os => (hpa.re d os).c3
          have p4 := fun d os => (hpa.re d os).c4
          have HP := Lib.hid hp
          clear hp hpa hA
          have cJ := fun d os => joins_q (W := wr.alloc (.cells #[.int .u64 r.fr, .int .u64 r.to, .int .u8 r.prot, .int .i64 r.ino, .int .u64 r.off] 179)) p r d os
          by_cases hlt' : r.fr < p.to
          · have hlb : decide (r.fr < p.to) = true := by simpa using hlt'
            have HH := Lib.hid (right_bad (l := l) (k := j + 1) (by have := hl.len; omega) (by rw [okAt_succ HR.out HP.out, HO.out]; simp; omega))
            have CJ := Lib.hid cJ
            clear cJ
            go_wp2
            refine wp_region_quiet_below (by kernel_rfl) (by kernel_rfl) ?_; (repeat (go_big_quiet_step (first | exact CM.out _ _ | exact CJ.out _ _))); refine wpQuiet_nil ?_; intro _ hw'; obtain ⟨⟨dq, osq⟩, hw''⟩ := hw'; subst hw''; have hbq := below_regrown (wr.alloc (.cells #[.int .u64 r.fr, .int .u64 r.to, .int .u8 r.prot, .int .i64 r.ino, .int .u64 r.off] 179)) dq osq; generalize grow (redrawn (wr.alloc (.cells #[.int .u64 r.fr, .int .u64 r.to, .int .u8 r.prot, .int .i64 r.ino, .int .u64 r.off] 179)) dq) osq = wq at hbq ⊢
            go_wp2
            go_ret
            refine ⟨ret_boolR ?_, ?_⟩
            · rw [HH.out]
            · ((repeat' (with_reducible (first | assumption | (refine Below.alloc ?_ ?_ _) | (refine Below.setCell ?_ ?_ _) | (refine Below.drew ?_) | (refine below_drewN ?_ _) | exact Below.refl _ _ | (refine Below.trans ?_ (Below.mono (by assumption) ?_))))) <;> (try simp) <;> (try omega))
          · have hlb : decide (r.fr < p.to) = false := by simpa using hlt'
            cases hj : Rg.joins p r with
            | true =>
              rw [hj] at cJ
              have CJ := Lib.hid cJ
              clear cJ
              have HH := Lib.hid (right_bad (l := l) (k := j + 1) (by have := hl.len; omega) (by rw [okAt_succ HR.out HP.out, HO.out, hj]; simp))
              clear hj
              go_wp2
              refine wp_region_quiet_below (by kernel_rfl) (by kernel_rfl) ?_; (repeat (go_big_quiet_step (first | exact CM.out _ _ | exact CJ.out _ _))); refine wpQuiet_nil ?_; intro _ hw'; obtain ⟨⟨dq, osq⟩, hw''⟩ := hw'; subst hw''; have hbq := below_regrown (wr.alloc (.cells #[.int .u64 r.fr, .int .u64 r.to, .int .u8 r.prot, .int .i64 r.ino, .int .u64 r.off] 179)) dq osq; generalize grow (redrawn (wr.alloc (.cells #[.int .u64 r.fr, .int .u64 r.to, .int .u8 r.prot, .int .i64 r.ino, .int .u64 r.off] 179)) dq) osq = wq at hbq ⊢
              go_wp2
              go_ret
              refine ⟨ret_boolR ?_, ?_⟩
              · rw [HH.out]
              · ((repeat' (with_reducible (first | assumption | (refine Below.alloc ?_ ?_ _) | (refine Below.setCell ?_ ?_ _) | (refine Below.drew ?_) | (refine below_drewN ?_ _) | exact Below.refl _ _ | (refine Below.trans ?_ (Below.mono (by assumption) ?_))))) <;> (try simp) <;> (try omega))
            | false =>
              rw [hj] at cJ
              have CJ := Lib.hid cJ
              clear cJ
              have HH := Lib.hid (hno.succ (by rw [okAt_succ HR.out HP.out, HO.out, hj]; simp; omega))
              clear hj
              go_wp2
              refine wp_region_quiet_below (by kernel_rfl) (by kernel_rfl) ?_; (repeat (go_big_quiet_step (first | exact CM.out _ _ | exact CJ.out _ _))); refine wpQuiet_nil ?_; intro _ hw'; obtain ⟨⟨dq, osq⟩, hw''⟩ := hw'; subst hw''; have hbq := below_regrown (wr.alloc (.cells #[.int .u64 r.fr, .int .u64 r.to, .int .u8 r.prot, .int .i64 r.ino, .int .u64 r.off] 179)) dq osq; generalize grow (redrawn (wr.alloc (.cells #[.int .u64 r.fr, .int .u64 r.to, .int .u8 r.prot, .int .i64 r.ino, .int .u64 r.off] 179)) dq) osq = wq at hbq ⊢
              go_wp2
              go_roundw
              case rel => exact ⟨j + 1 + 1, by omega, by go_num, by ((repeat' (with_reducible (first | assumption | (refine Below.alloc ?_ ?_ _) | (refine Below.setCell ?_ ?_ _) | (refine Below.drew ?_) | (refine below_drewN ?_ _) | exact Below.refl _ _ | (refine Below.trans ?_ (Below.mono (by assumption) ?_))))) <;> (try simp) <;> (try omega)), HH.out⟩
              case measure => simp [intOf]; omega
    · have HH := Lib.hid (hno.all (by have := hl.len; omega))
      have hlen := hl.len
      go_wp2
      go_ret
      refine ⟨ret_boolR ?_, ?_⟩
      · rw [HH.out, hlen]
        simp
        omega
      · ((repeat' (with_reducible (first | assumption | (refine Below.alloc ?_ ?_ _) | (refine Below.setCell ?_ ?_ _) | (refine Below.drew ?_) | (refine below_drewN ?_ _) | exact Below.refl _ _ | (refine Below.trans ?_ (Below.mono (by assumption) ?_))))) <;> (try simp) <;> (try omega))

theorem right_long {l : List Reg} (h : 64 < l.length) : Rg.right l = false := by
  unfold Rg.right
  have : decide (l.length ≤ 64) = false := by simp; omega
  rw [this, Bool.and_false]

end Go.Proofs.YtadmeeabbkpmlaaGreatDoor
