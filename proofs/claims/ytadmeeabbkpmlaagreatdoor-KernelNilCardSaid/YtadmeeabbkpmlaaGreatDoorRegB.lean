/- Regions: a list of regions in memory; Find, of the program and of the references. -/
import Derived.Test.YtadmeeabbkpmlaaGreatDoorRegA
import Derived.Deep.Light
namespace Go.Proofs.YtadmeeabbkpmlaaGreatDoor
open Go.RowKit
set_option linter.unusedSimpArgs false
set_option linter.unusedVariables false

def zeroReg : Reg := ⟨0, 0, 0, 0, 0⟩

/-- Five cells read as a region. -/
structure RegAt (w : World) (b o : Nat) (r : Reg) : Prop where
  c0 : w.cell? ⟨b, o, none⟩ = some (.int .u64 r.fr)
  c1 : w.cell? ⟨b, o + 1, none⟩ = some (.int .u64 r.to)
  c2 : w.cell? ⟨b, o + 2, none⟩ = some (.int .u8 r.prot)
  c3 : w.cell? ⟨b, o + 3, none⟩ = some (.int .i64 r.ino)
  c4 : w.cell? ⟨b, o + 4, none⟩ = some (.int .u64 r.off)

theorem RegAt.below {w w' : World} {B b o : Nat} {r : Reg} (h : RegAt w b o r) (hb : Below B w w') (hB : b < B) : RegAt w' b o r :=
  ⟨(hb.cell (p := ⟨b, _, none⟩) hB).trans h.c0, (hb.cell (p := ⟨b, _, none⟩) hB).trans h.c1, (hb.cell (p := ⟨b, _, none⟩) hB).trans h.c2, (hb.cell (p := ⟨b, _, none⟩) hB).trans h.c3, (hb.cell (p := ⟨b, _, none⟩) hB).trans h.c4⟩

/-- A slice that reads as a list of regions; it lies below block B. -/
structure RSl (w : World) (B : Nat) (A : Option Addr) (n cap : Nat) (l : List Reg) : Prop where
  len : l.length = n
  cap : n ≤ cap
  few : n ≤ 1000000
  at_ : ∀ k r, l[k]? = some r → ∃ b off, A = some ⟨b, off, none⟩ ∧ b < B ∧ RegAt w b (off + k * 5) r

theorem RSl.below {w w' : World} {B B' : Nat} {A : Option Addr} {n cap : Nat} {l : List Reg} (h : RSl w B A n cap l) (hb : Below B' w w') (hB : B ≤ B') : RSl w' B A n cap l :=
  ⟨h.len, h.cap, h.few, fun k r hr => by
    obtain ⟨b, off, e, hlt, hra⟩ := h.at_ k r hr
    exact ⟨b, off, e, hlt, hra.below hb (by omega)⟩⟩

def Rg.holds (r : Reg) (a : Int) : Bool := decide (r.fr ≤ a ∧ a < r.to)
def Rg.find (l : List Reg) (a : Int) : Reg × Bool := match l.find? (Rg.holds · a) with
  | some r => (r, true)
  | none => (zeroReg, false)

def NoneYet (l : List Reg) (a : Int) (k : Nat) : Prop := (l.take k).find? (Rg.holds · a) = none

theorem NoneYet.zero (l : List Reg) (a : Int) : NoneYet l a 0 := by simp [NoneYet]
theorem NoneYet.succ {l : List Reg} {a : Int} {k : Nat} {r : Reg} (h : NoneYet l a k) (hr : l[k]? = some r) (hn : Rg.holds r a = false) : NoneYet l a (k + 1) := by
  unfold NoneYet at *
  rw [List.take_add_one, hr]
  rw [List.find?_append, h]
  simp [hn]
theorem NoneYet.found {l : List Reg} {a : Int} {k : Nat} {r : Reg} (h : NoneYet l a k) (hr : l[k]? = some r) (hn : Rg.holds r a = true) : Rg.find l a = (r, true) := by
  unfold NoneYet at h
  have hl : l = l.take k ++ l.drop k := (List.take_append_drop k l).symm
  have hd : l.drop k = r :: l.drop (k + 1) := by
    obtain ⟨hk, e⟩ := List.getElem?_eq_some_iff.1 hr
    rw [List.drop_eq_getElem_cons hk, e]
  have : l.find? (Rg.holds · a) = some r := by
    rw [hl, List.find?_append, h, hd]
    simp [hn]
  simp [Rg.find, this]
theorem NoneYet.all {l : List Reg} {a : Int} {k : Nat} (h : NoneYet l a k) (hk : l.length ≤ k) : Rg.find l a = (zeroReg, false) := by
  unfold NoneYet at h
  rw [List.take_of_length_le hk] at h
  simp [Rg.find, h]

set_option maxHeartbeats 400000 in
theorem find_any (A : Option Addr) (n cap : Nat) (a : Int) (w : World) (l : List Reg) (hl : RSl w w.heap.size A n cap l) :
    Calls Tryz.prog 150 #[.slice A n cap, .int .u64 a] w
      fun e w' => e = .returned (.tuple #[.agg #[.int .u64 ((Rg.find l a).1).fr, .int .u64 ((Rg.find l a).1).to, .int .u8 ((Rg.find l a).1).prot, .int .i64 ((Rg.find l a).1).ino, .int .u64 ((Rg.find l a).1).off], .bool (Rg.find l a).2]) ∧ Below w.heap.size w w' := by
  have hn := hl.few
  go_enter Tryz.func150, Tryz.ntmps150
  go_wp2
  go_loopw [10] (fun i wr => ∃ k : Nat, k ≤ n ∧ i = .int .i64 k ∧ Below (w.heap.size + 1) (w.alloc (.cells #[.int .u64 0, .int .u64 0, .int .u8 0, .int .i64 0, .int .u64 0] 179)) wr ∧ NoneYet l a k) (fun i _ => n - (intOf i).toNat)
  case atStart => exact ⟨0, Nat.zero_le _, rfl, Below.refl _ _, NoneYet.zero l a⟩
  case round =>
    obtain ⟨k, hk, rfl, hB, hno⟩ := hrel
    have hBs := hB.size
    simp at hBs
    have hz0 : w.heap.size < wr.heap.size := by omega
    have hcz : ∀ o, wr.cell? ⟨w.heap.size, o, none⟩ = (#[.int .u64 0, .int .u64 0, .int .u8 0, .int .i64 0, .int .u64 0] : Array Value)[o]? := fun o => by
      rw [hB.cell (p := ⟨w.heap.size, o, none⟩) (Nat.lt_succ_self _)]; simp
    have hfz : ∀ o, wr.frozen? ⟨w.heap.size, o, none⟩ = false := fun o => by
      rw [hB.frozen (p := ⟨w.heap.size, o, none⟩) (Nat.lt_succ_self _)]; simp
    have hBw : Below w.heap.size w wr := ((Below.refl w.heap.size w).alloc (Nat.le_refl _) _).trans (hB.mono (by omega))
    by_cases hlt : k < n
    · obtain ⟨r, hr⟩ : ∃ r, l[k]? = some r := ⟨_, List.getElem?_eq_getElem (by have := hl.len; omega)⟩
      obtain ⟨b, off, rfl, hb, hra⟩ := hl.at_ k r hr
      obtain ⟨h0, h1, h2, h3, h4⟩ := hra.below hBw hb
      have HR := Lib.hid hr
      clear hr hra
      by_cases hh : r.fr ≤ a ∧ a < r.to
      · have HH := Lib.hid (hno.found HR.out (by simp [Rg.holds, hh]))
        obtain ⟨g1, g2⟩ := hh
        go_wp2
        refine bodyPost_ret (v := .tuple #[.agg #[.int .u64 (r).fr, .int .u64 (r).to, .int .u8 (r).prot, .int .i64 (r).ino, .int .u64 (r).off], .bool true]) (by simp [results, Tryz.results150, go_sem, hz0, hcz, hfz]) rfl ⟨?_, ?_⟩
        · rw [HH.out]
        · ((repeat' (with_reducible (first | assumption | (refine Below.alloc ?_ ?_ _) | (refine Below.setCell ?_ ?_ _) | (refine Below.drew ?_) | (refine below_drewN ?_ _) | exact Below.refl _ _ | (refine Below.trans ?_ (Below.mono (by assumption) ?_))))) <;> (try simp) <;> (try omega))
      · have HH := Lib.hid (hno.succ HR.out (by simp [Rg.holds]; omega))
        by_cases g1 : r.fr ≤ a
        · have g2 : ¬ a < r.to := fun h => hh ⟨g1, h⟩
          clear hh
          go_wp2
          go_roundw
          case rel => exact ⟨k + 1, by omega, by go_num, by ((repeat' (with_reducible (first | assumption | (refine Below.alloc ?_ ?_ _) | (refine Below.setCell ?_ ?_ _) | (refine Below.drew ?_) | (refine below_drewN ?_ _) | exact Below.refl _ _ | (refine Below.trans ?_ (Below.mono (by assumption) ?_))))) <;> (try simp) <;> (try omega)), HH.out⟩
          case measure => simp [intOf]; omega
        · clear hh
          go_wp2
          go_roundw
          case rel => exact ⟨k + 1, by omega, by go_num, by ((repeat' (with_reducible (first | assumption | (refine Below.alloc ?_ ?_ _) | (refine Below.setCell ?_ ?_ _) | (refine Below.drew ?_) | (refine below_drewN ?_ _) | exact Below.refl _ _ | (refine Below.trans ?_ (Below.mono (by assumption) ?_))))) <;> (try simp) <;> (try omega)), HH.out⟩
          case measure => simp [intOf]; omega
    · have HH := Lib.hid (hno.all (by have := hl.len; omega))
      go_wp2
      refine bodyPost_ret (v := .tuple #[.agg #[.int .u64 (zeroReg).fr, .int .u64 (zeroReg).to, .int .u8 (zeroReg).prot, .int .i64 (zeroReg).ino, .int .u64 (zeroReg).off], .bool false]) (by simp [results, Tryz.results150, go_sem, hz0, hcz, hfz, zeroReg]) rfl ⟨?_, ?_⟩
      · rw [HH.out]
      · ((repeat' (with_reducible (first | assumption | (refine Below.alloc ?_ ?_ _) | (refine Below.setCell ?_ ?_ _) | (refine Below.drew ?_) | (refine below_drewN ?_ _) | exact Below.refl _ _ | (refine Below.trans ?_ (Below.mono (by assumption) ?_))))) <;> (try simp) <;> (try omega))

end Go.Proofs.YtadmeeabbkpmlaaGreatDoor
