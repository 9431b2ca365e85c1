/- Regions: run, at what goes and at what is protected. -/
import Derived.Test.YtadmeeabbkpmlaaGreatDoorRegF
import Derived.Lib.MinMax
namespace Go.Proofs.YtadmeeabbkpmlaaGreatDoor
open Go.RowKit Go.Sort
set_option linter.unusedSimpArgs false
set_option linter.unusedVariables false
set_option maxRecDepth 100000

def Rg.pc (r : Reg) (f t : Int) (ok : Bool) : List Reg := if ok = true ∧ f < t then [Rg.part r f t] else []

theorem But2.of_below {w w' : World} (h : Below w.heap.size w w') (g : Nat) (row : Option Nat) : But2 w w' g row := ⟨h.os, h.tape, h.output, h.size, fun k hk _ _ => h.block k hk⟩
theorem But2.blk {w w' : World} {g : Nat} {row : Option Nat} (h : But2 w w' g row) {b : Nat} {o : Obj} (hb : w.heap[b]? = some o) (h1 : b ≠ g) (h2 : some b ≠ row) : w'.heap[b]? = some o :=
  (h.block b (Array.getElem?_eq_some_iff.1 hb).1 h1 h2).trans hb

/-- What is true of where the row lies: nothing, or a block from base on. -/
theorem OwnR.row {w : World} {base : Nat} {A : Option Addr} {cap : Nat} {l : List Reg} (h : OwnR w base A cap l) : ∀ b, A.map (·.block) = some b → base ≤ b ∧ b < w.heap.size := fun b hb => by
  rcases h.form with ⟨h1, _, _⟩ | ⟨g1, h1, h2, h3, h4⟩
  · rw [h1] at hb; simp at hb
  · rw [h1] at hb; simp at hb; subst hb; exact ⟨h2, h3⟩

def PutPost (r : Reg) (f t : Int) (ok : Bool) (g base : Nat) (A : Option Addr) (l : List Reg) (w : World) (e : Ending) (w' : World) : Prop :=
  e = .returned (.tuple #[]) ∧ ∃ A' cap', w'.heap[g]? = some (.cells #[.slice A' (l ++ Rg.pc r f t ok).length cap'] 117 (0, 0)) ∧ OwnR w' base A' cap' (l ++ Rg.pc r f t ok) ∧ But2 w w' g (A.map (·.block)) ∧ (∀ b, A'.map (·.block) = some b → A.map (·.block) = some b ∨ w.heap.size ≤ b)

theorem putc_any (r : Reg) (f t : Int) (ok : Bool) (g base : Nat) (A : Option Addr) (cap : Nat) (l : List Reg) (w : World)
    (hcell : w.heap[g]? = some (.cells #[.slice A l.length cap] 117 (0, 0))) (hown : OwnR w base A cap l) (hgb : g < base) (hbw : base ≤ w.heap.size) (hfew : l.length < 1000000) :
    Calls Tryz.prog 238 #[.agg #[.int .u64 (r).fr, .int .u64 (r).to, .int .u8 (r).prot, .int .i64 (r).ino, .int .u64 (r).off], .int .u64 f, .int .u64 t, .bool ok, .pointer (some ⟨g, 0, none⟩)] w (PutPost r f t ok g base A l w) := by
  by_cases h : ok = true ∧ f < t
  · obtain ⟨rfl, hft⟩ := h
    refine (putc_yes r f t g base A cap l w hcell hown hgb hbw hfew hft).mono ?_
    rintro e w' ⟨rfl, g', cap', h1, h2, h3, h4⟩
    refine ⟨rfl, some ⟨g', 0, none⟩, cap', ?_, ?_, h3, fun b hb => by simp at hb; subst hb; exact h4⟩
    · simpa [Rg.pc, hft] using h1
    · simpa [Rg.pc, hft] using h2
  · refine (putc_no r f t ok g w (by cases ok <;> simp_all)).mono ?_
    rintro e w' ⟨rfl, hb⟩
    have hp : Rg.pc r f t ok = [] := by simp only [Rg.pc, if_neg h]
    refine ⟨rfl, A, cap, ?_, ?_, But2.of_below hb _ _, fun b hb => .inl hb⟩
    · rw [hp, List.append_nil, hb.block g (by omega)]
      exact hcell
    · rw [hp, List.append_nil]
      exact hown.below hb (Nat.le_refl _)

/-- What is true at the head of run's loop (and between its calls). -/
structure RunInv (w : World) (W0 wr : World) (A : Option Addr) (cap : Nat) (l : List Reg) : Prop where
  below : Below (w.heap.size + 1) W0 wr
  cell : wr.heap[w.heap.size + 1]? = some (.cells #[.slice A l.length cap] 117 (0, 0))
  own : OwnR wr (w.heap.size + 2) A cap l
  size : w.heap.size + 2 ≤ wr.heap.size

theorem RunInv.alloc {w W0 wr : World} {A : Option Addr} {cap : Nat} {l : List Reg} (h : RunInv w W0 wr A cap l) (o : Obj) : RunInv w W0 (wr.alloc o) A cap l :=
  ⟨h.below.alloc (by have := h.size; omega) o, (Below.heap_alloc _ _ _ (by have := h.size; omega)).trans h.cell, h.own.alloc o, by have := h.size; simp; omega⟩
theorem RunInv.next {w W0 wr w' : World} {A : Option Addr} {cap : Nat} {l : List Reg} (h : RunInv w W0 wr A cap l) (hb : Below wr.heap.size wr w') : RunInv w W0 w' A cap l :=
  ⟨h.below.trans (hb.mono (by have := h.size; omega)), (hb.block _ (by have := h.size; omega)).trans h.cell, h.own.below hb (Nat.le_refl _), by have := h.size; have := hb.size; omega⟩
theorem RunInv.put {w W0 wr w' : World} {A : Option Addr} {cap : Nat} {l : List Reg} (h : RunInv w W0 wr A cap l) {r : Reg} {f t : Int} {ok : Bool} {e : Ending}
    (hp : PutPost r f t ok (w.heap.size + 1) (w.heap.size + 2) A l wr e w') : e = .returned (.tuple #[]) ∧ ∃ A' cap', RunInv w W0 w' A' cap' (l ++ Rg.pc r f t ok) ∧ wr.heap.size ≤ w'.heap.size ∧ (∀ b, A'.map (·.block) = some b → A.map (·.block) = some b ∨ wr.heap.size ≤ b) ∧
      (∀ b o, wr.heap[b]? = some o → b ≠ w.heap.size + 1 → some b ≠ A.map (·.block) → w'.heap[b]? = some o) := by
  obtain ⟨he, A', cap', h1, h2, h3, h9⟩ := hp
  refine ⟨he, A', cap', ⟨h.below.trans ⟨h3.os, h3.tape, h3.output, h3.size, fun k hk => h3.block k (by have := h.size; omega) (by omega) (fun e => ?_)⟩, h1, h2, by have := h.size; have := h3.size; omega⟩, h3.size, h9, fun b o hb h4 h5 => h3.blk hb h4 h5⟩
  have := h.own.row k e.symm
  omega

/-- What a step makes of one region. -/
def Rg.run1 (f t : Int) (h : Reg → Reg × Bool) (r : Reg) : List Reg := Rg.pc r r.fr (min r.to f) true ++ (Rg.pc (h r).1 (max r.fr f) (min r.to t) (h r).2 ++ Rg.pc r (max r.fr t) r.to true)
def Rg.run (f t : Int) (h : Reg → Reg × Bool) (l : List Reg) : List Reg := l.flatMap (Rg.run1 f t h)
theorem run_take {f t : Int} {h : Reg → Reg × Bool} {l : List Reg} {k : Nat} {r : Reg} (hr : l[k]? = some r) : Rg.run f t h (l.take (k + 1)) = Rg.run f t h (l.take k) ++ Rg.run1 f t h r := by
  rw [List.take_add_one, hr]
  simp [Rg.run]
theorem pc_len (r : Reg) (f t : Int) (ok : Bool) : (Rg.pc r f t ok).length ≤ 1 := by unfold Rg.pc; split <;> simp
theorem run_len (f t : Int) (h : Reg → Reg × Bool) (l : List Reg) : (Rg.run f t h l).length ≤ 3 * l.length := by
  induction l with
  | nil => simp [Rg.run]
  | cons r l ih =>
    have h1 := pc_len r r.fr (min r.to f) true
    have h2 := pc_len (h r).1 (max r.fr f) (min r.to t) (h r).2
    have h3 := pc_len r (max r.fr t) r.to true
    simp only [Rg.run, List.flatMap_cons, List.length_append, Rg.run1, List.length_cons] at *
    omega
def hGone (r : Reg) : Reg × Bool := (zeroReg, false)
def hProt (p : Int) (r : Reg) : Reg × Bool := (⟨r.fr, r.to, p, r.ino, r.off⟩, true)

theorem one_blockR {w : World} {b : Nat} {cs : Array Value} {t : TypeId} (h : w.heap[b]? = some (.cells cs t (0, 0))) (j : Nat) : w.cell? ⟨b, j, none⟩ = cs[j]? := cell_of_row w b j cs t (0, 0) h

set_option maxHeartbeats 2000000 in
theorem run_gone_any (f t : Int) (A : Option Addr) (n cap : Nat) (w : World) (l : List Reg) (hl : RSl w w.heap.size A n cap l) (hf : n ≤ 300) :
    Calls Tryz.prog 178 #[.agg #[.int .u64 f, .int .u64 t, .func (.func 177) #[] #[]], .slice A n cap] w
      fun e w' => ∃ A' cap', e = .returned (.slice A' (Rg.run f t hGone l).length cap') ∧ OwnR w' w.heap.size A' cap' (Rg.run f t hGone l) ∧ Below w.heap.size w w' := by
  have hln := Lib.hid hl.len
  go_enter Tryz.func178, Tryz.ntmps178
  go_wp2
  generalize hW0 : (w.alloc (.cells #[.int .u64 f, .int .u64 t, .func (.func 177) #[] #[]] 344)).alloc (.cells #[.slice none 0 0] 117) = W0
  have HW := Lib.hid hW0
  have hstart : RunInv w W0 W0 none 0 (Rg.run f t hGone (l.take 0)) := by
    subst hW0
    exact ⟨Below.refl _ _, by have := heap_alloc_new (w.alloc (.cells #[.int .u64 f, .int .u64 t, .func (.func 177) #[] #[]] 344)) (.cells #[.slice none 0 0] 117); simpa [Rg.run] using this, by simpa [Rg.run] using OwnR.nil _ _, by simp⟩
  have hstep : W0.heap[w.heap.size]? = some (.cells #[.int .u64 f, .int .u64 t, .func (.func 177) #[] #[]] 344 (0, 0)) := by
    subst hW0
    rw [Below.heap_alloc _ _ _ (by simp)]
    exact heap_alloc_new w _
  have hb0 : Below w.heap.size w W0 := by
    subst hW0
    ((repeat' (with_reducible (first | assumption | (refine Below.alloc ?_ ?_ _) | (refine Below.setCell ?_ ?_ _) | (refine Below.drew ?_) | (refine below_drewN ?_ _) | exact Below.refl _ _ | (refine Below.trans ?_ (Below.mono (by assumption) ?_))))) <;> (try simp) <;> (try omega))
  clear hW0
  go_loopw [13] (fun i wr => ∃ k : Nat, k ≤ n ∧ i = .int .i64 k ∧ ∃ A cap, RunInv w W0 wr A cap (Rg.run f t hGone (l.take k))) (fun i _ => n - (intOf i).toNat)
  case atStart => exact ⟨0, Nat.zero_le _, rfl, none, 0, hstart⟩
  case round =>
    obtain ⟨k, hk, rfl, A1, c1, hI⟩ := hrel
    have hB := hb0.trans (hI.below.mono (by omega))
    have hs0 := hI.size
    have hz0 : w.heap.size < wr.heap.size := by omega
    have hz1 : w.heap.size + 1 < wr.heap.size := by omega
    have hsr := (hI.below.block _ (by omega)).trans hstep
    have s0 : wr.cell? ⟨w.heap.size, 0, none⟩ = some (.int .u64 f) := one_blockR hsr 0
    have s1 : wr.cell? ⟨w.heap.size, 1, none⟩ = some (.int .u64 t) := one_blockR hsr 1
    have s2 : wr.cell? ⟨w.heap.size, 2, none⟩ = some (.func (.func 177) #[] #[]) := one_blockR hsr 2
    by_cases hlt : k < n
    · obtain ⟨r, hr⟩ : ∃ r, l[k]? = some r := ⟨_, List.getElem?_eq_getElem (by have := hln.out; omega)⟩
      obtain ⟨b, off, rfl, hb, hra⟩ := hl.at_ k r hr
      obtain ⟨h0, h1, h2, h3, h4⟩ := hra.below hB hb
      have HR := Lib.hid hr
      have hlen := run_len f t hGone (l.take k)
      have hlk : (l.take k).length ≤ 300 := by rw [List.length_take]; omega
      generalize hL : Rg.run f t hGone (l.take k) = L at *
      have HL := Lib.hid hL
      clear hr hra hL
      go_wp2_with fail
      -- the first part
      have hI1 := hI.alloc (.cells #[.int .u64 r.fr, .int .u64 r.to, .int .u8 r.prot, .int .i64 r.ino, .int .u64 r.off] 179)
      have hrow1 := hI.own.row
      have hbx1 := heap_alloc_new wr (.cells #[.int .u64 r.fr, .int .u64 r.to, .int .u8 r.prot, .int .i64 r.ino, .int .u64 r.off] 179)
      have hst1 := (Below.heap_alloc wr (.cells #[.int .u64 r.fr, .int .u64 r.to, .int .u8 r.prot, .int .i64 r.ino, .int .u64 r.off] 179) _ hz0).trans hsr
      refine (putc_any r _ _ true (w.heap.size + 1) (w.heap.size + 2) A1 c1 L _ hI1.cell hI1.own (by omega) hI1.size (by omega)).mono ?_
      intro e w1 hp1
      obtain ⟨rfl, A2, c2, hI2, hsz1, hat1, hkeep1⟩ := hI1.put hp1
      have hbx2 := hkeep1 _ _ hbx1 (by omega) (fun e => by have := hrow1 _ e.symm; omega)
      have hst2 := hkeep1 _ _ hst1 (by omega) (fun e => by have := hrow1 _ e.symm; omega)
      have hL1 := pc_len r r.fr (min r.to f) true
      have hrb1 : some wr.heap.size ≠ A2.map (·.block) := fun e => by
        rcases hat1 _ e.symm with h | h
        · have := hrow1 _ h; omega
        · simp at h; omega
      have hsz1' : wr.heap.size < w1.heap.size := by simp at hsz1; omega
      clear hat1 hI1 hp1 hkeep1 hbx1 hst1 s0 s1 s2 h0 h1 h2 h3 h4 hsr
      have s0 : w1.cell? ⟨w.heap.size, 0, none⟩ = some (.int .u64 f) := one_blockR hst2 0
      have s1 : w1.cell? ⟨w.heap.size, 1, none⟩ = some (.int .u64 t) := one_blockR hst2 1
      have s2 : w1.cell? ⟨w.heap.size, 2, none⟩ = some (.func (.func 177) #[] #[]) := one_blockR hst2 2
      have b0 : w1.cell? ⟨wr.heap.size, 0, none⟩ = some (.int .u64 r.fr) := one_blockR hbx2 0
      have b1 : w1.cell? ⟨wr.heap.size, 1, none⟩ = some (.int .u64 r.to) := one_blockR hbx2 1
      have b2 : w1.cell? ⟨wr.heap.size, 2, none⟩ = some (.int .u8 r.prot) := one_blockR hbx2 2
      have b3 : w1.cell? ⟨wr.heap.size, 3, none⟩ = some (.int .i64 r.ino) := one_blockR hbx2 3
      have b4 : w1.cell? ⟨wr.heap.size, 4, none⟩ = some (.int .u64 r.off) := one_blockR hbx2 4
      go_wp2_with fail
      -- what becomes of it within
      refine (rgone_any r w1).mono ?_
      rintro e w2 ⟨rfl, hb2⟩
      have hI3 := hI2.next hb2
      have hbx3 := (hb2.block _ hsz1').trans hbx2
      have hst3 := (hb2.block _ (by omega)).trans hst2
      have hsz2 := hb2.size
      clear s0 s1 s2 b0 b1 b2 b3 b4 hbx2 hst2
      have s0 : w2.cell? ⟨w.heap.size, 0, none⟩ = some (.int .u64 f) := one_blockR hst3 0
      have s1 : w2.cell? ⟨w.heap.size, 1, none⟩ = some (.int .u64 t) := one_blockR hst3 1
      have b0 : w2.cell? ⟨wr.heap.size, 0, none⟩ = some (.int .u64 r.fr) := one_blockR hbx3 0
      have b1 : w2.cell? ⟨wr.heap.size, 1, none⟩ = some (.int .u64 r.to) := one_blockR hbx3 1
      have hz2 : w.heap.size < w2.heap.size := by omega
      have hz3 : wr.heap.size < w2.heap.size := by omega
      go_wp2_with fail
      -- the part within
      have hI4 := hI3.alloc (.cells #[.int .u64 (hGone r).1.fr, .int .u64 (hGone r).1.to, .int .u8 (hGone r).1.prot, .int .i64 (hGone r).1.ino, .int .u64 (hGone r).1.off] 179)
      have hrow2 := hI3.own.row
      have hbx4 := (Below.heap_alloc w2 (.cells #[.int .u64 (hGone r).1.fr, .int .u64 (hGone r).1.to, .int .u8 (hGone r).1.prot, .int .i64 (hGone r).1.ino, .int .u64 (hGone r).1.off] 179) _ hz3).trans hbx3
      have hst4 := (Below.heap_alloc w2 (.cells #[.int .u64 (hGone r).1.fr, .int .u64 (hGone r).1.to, .int .u8 (hGone r).1.prot, .int .i64 (hGone r).1.ino, .int .u64 (hGone r).1.off] 179) _ hz2).trans hst3
      have hnr : some wr.heap.size ≠ A2.map (·.block) := hrb1
      refine (putc_any (hGone r).1 _ _ (hGone r).2 (w.heap.size + 1) (w.heap.size + 2) A2 c2 _ _ hI4.cell hI4.own (by omega) hI4.size (by simp; omega)).mono ?_
      intro e w3 hp2
      obtain ⟨rfl, A3, c3, hI5, hsz3, hat3, hkeep2⟩ := hI4.put hp2
      have hbx5 := hkeep2 _ _ hbx4 (by omega) hnr
      have hst5 := hkeep2 _ _ hst4 (by omega) (fun e => by have := hrow2 _ e.symm; omega)
      have hL2 := pc_len (hGone r).1 (max r.fr f) (min r.to t) (hGone r).2
      have hsz3' : wr.heap.size < w3.heap.size := by simp at hsz3; omega
      clear hat3 hI4 hp2 hkeep2 hbx4 hst4 s0 s1 b0 b1
      have s1 : w3.cell? ⟨w.heap.size, 1, none⟩ = some (.int .u64 t) := one_blockR hst5 1
      have b0 : w3.cell? ⟨wr.heap.size, 0, none⟩ = some (.int .u64 r.fr) := one_blockR hbx5 0
      have b1 : w3.cell? ⟨wr.heap.size, 1, none⟩ = some (.int .u64 r.to) := one_blockR hbx5 1
      have b2 : w3.cell? ⟨wr.heap.size, 2, none⟩ = some (.int .u8 r.prot) := one_blockR hbx5 2
      have b3 : w3.cell? ⟨wr.heap.size, 3, none⟩ = some (.int .i64 r.ino) := one_blockR hbx5 3
      have b4 : w3.cell? ⟨wr.heap.size, 4, none⟩ = some (.int .u64 r.off) := one_blockR hbx5 4
      go_wp2_with fail
      -- the last part
      refine (putc_any r _ _ true (w.heap.size + 1) (w.heap.size + 2) A3 c3 _ _ hI5.cell hI5.own (by omega) hI5.size (by simp; omega)).mono ?_
      intro e w4 hp3
      obtain ⟨rfl, A4, c4, hI6, hsz4, _, _⟩ := hI5.put hp3
      have hfin : RunInv w W0 w4 A4 c4 (Rg.run f t hGone (l.take (k + 1))) := by
        rw [run_take HR.out, HL.out]
        simpa [Rg.run1, List.append_assoc] using hI6
      clear hI6 hp3 s1 b0 b1 b2 b3 b4
      go_wp2_with fail
      go_roundw
      case rel => exact ⟨k + 1, by omega, by go_num, A4, c4, hfin⟩
      case measure => simp [intOf]; omega
    · have hcell := one_blockR hI.cell 0
      have hfr : wr.frozen? ⟨w.heap.size + 1, 0, none⟩ = false := by simp [World.frozen?, hI.cell]
      have ht : l.take k = l := List.take_of_length_le (by have := hln.out; omega)
      have HI := Lib.hid hI
      have HT := Lib.hid ht
      clear hI ht
      have hc0 : wr.cell? ⟨w.heap.size + 1, 0, none⟩ = some (.slice A1 (Rg.run f t hGone (l.take k)).length c1) := hcell
      clear hcell
      generalize hL : (Rg.run f t hGone (l.take k)) = L at *
      have HL := Lib.hid hL
      clear hL
      go_wp2
      refine bodyPost_ret (v := .slice A1 L.length c1) (by simp [results, Tryz.results178, go_sem, hc0, hfr, hz1]) rfl ?_
      have hI := HI.out
      have hL := HL.out
      rw [HT.out] at hL
      subst hL
      refine ⟨A1, c1, rfl, ?_, ?_⟩
      · refine OwnR.lower (OwnR.kept hI.own (row := some (w.heap.size + 1)) ⟨rfl, rfl, rfl, by simp [World.setCell], fun k _ hk => Below.heap_setCell _ _ _ _ (fun e => hk (by rw [e]))⟩ (.inr fun e => ?_)) (by omega)
        have := hI.own.row _ e
        omega
      · ((repeat' (with_reducible (first | assumption | (refine Below.alloc ?_ ?_ _) | (refine Below.setCell ?_ ?_ _) | (refine Below.drew ?_) | (refine below_drewN ?_ _) | exact Below.refl _ _ | (refine Below.trans ?_ (Below.mono (by assumption) ?_))))) <;> (try simp) <;> (try omega))


set_option maxHeartbeats 2000000 in
theorem run_prot_any (p : Int) (gp : Nat)(f t : Int) (A : Option Addr) (n cap : Nat) (w : World) (l : List Reg) (hl : RSl w w.heap.size A n cap l) (hf : n ≤ 300)(hp : w.cell? ⟨gp, 0, none⟩ = some (.int .u8 p)) (hgp : gp < w.heap.size) :
    Calls Tryz.prog 178 #[.agg #[.int .u64 f, .int .u64 t, .func (.func 190) #[] #[.pointer (some ⟨gp, 0, none⟩)]], .slice A n cap] w
      fun e w' => ∃ A' cap', e = .returned (.slice A' (Rg.run f t (hProt p) l).length cap') ∧ OwnR w' w.heap.size A' cap' (Rg.run f t (hProt p) l) ∧ Below w.heap.size w w' := by
  have hln := Lib.hid hl.len
  go_enter Tryz.func178, Tryz.ntmps178
  go_wp2
  generalize hW0 : (w.alloc (.cells #[.int .u64 f, .int .u64 t, .func (.func 190) #[] #[.pointer (some ⟨gp, 0, none⟩)]] 344)).alloc (.cells #[.slice none 0 0] 117) = W0
  have HW := Lib.hid hW0
  have hstart : RunInv w W0 W0 none 0 (Rg.run f t (hProt p) (l.take 0)) := by
    subst hW0
    exact ⟨Below.refl _ _, by have := heap_alloc_new (w.alloc (.cells #[.int .u64 f, .int .u64 t, .func (.func 190) #[] #[.pointer (some ⟨gp, 0, none⟩)]] 344)) (.cells #[.slice none 0 0] 117); simpa [Rg.run] using this, by simpa [Rg.run] using OwnR.nil _ _, by simp⟩
  have hstep : W0.heap[w.heap.size]? = some (.cells #[.int .u64 f, .int .u64 t, .func (.func 190) #[] #[.pointer (some ⟨gp, 0, none⟩)]] 344 (0, 0)) := by
    subst hW0
    rw [Below.heap_alloc _ _ _ (by simp)]
    exact heap_alloc_new w _
  have hb0 : Below w.heap.size w W0 := by
    subst hW0
    ((repeat' (with_reducible (first | assumption | (refine Below.alloc ?_ ?_ _) | (refine Below.setCell ?_ ?_ _) | (refine Below.drew ?_) | (refine below_drewN ?_ _) | exact Below.refl _ _ | (refine Below.trans ?_ (Below.mono (by assumption) ?_))))) <;> (try simp) <;> (try omega))
  clear hW0
  go_loopw [13] (fun i wr => ∃ k : Nat, k ≤ n ∧ i = .int .i64 k ∧ ∃ A cap, RunInv w W0 wr A cap (Rg.run f t (hProt p) (l.take k))) (fun i _ => n - (intOf i).toNat)
  case atStart => exact ⟨0, Nat.zero_le _, rfl, none, 0, hstart⟩
  case round =>
    obtain ⟨k, hk, rfl, A1, c1, hI⟩ := hrel
    have hB := hb0.trans (hI.below.mono (by omega))
    have hs0 := hI.size
    have hz0 : w.heap.size < wr.heap.size := by omega
    have hz1 : w.heap.size + 1 < wr.heap.size := by omega
    have hsr := (hI.below.block _ (by omega)).trans hstep
    have s0 : wr.cell? ⟨w.heap.size, 0, none⟩ = some (.int .u64 f) := one_blockR hsr 0
    have s1 : wr.cell? ⟨w.heap.size, 1, none⟩ = some (.int .u64 t) := one_blockR hsr 1
    have s2 : wr.cell? ⟨w.heap.size, 2, none⟩ = some (.func (.func 190) #[] #[.pointer (some ⟨gp, 0, none⟩)]) := one_blockR hsr 2
    by_cases hlt : k < n
    · obtain ⟨r, hr⟩ : ∃ r, l[k]? = some r := ⟨_, List.getElem?_eq_getElem (by have := hln.out; omega)⟩
      obtain ⟨b, off, rfl, hb, hra⟩ := hl.at_ k r hr
      obtain ⟨h0, h1, h2, h3, h4⟩ := hra.below hB hb
      have HR := Lib.hid hr
      have hlen := run_len f t (hProt p) (l.take k)
      have hlk : (l.take k).length ≤ 300 := by rw [List.length_take]; omega
      generalize hL : Rg.run f t (hProt p) (l.take k) = L at *
      have HL := Lib.hid hL
      clear hr hra hL
      go_wp2_with fail
      -- the first part
      have hI1 := hI.alloc (.cells #[.int .u64 r.fr, .int .u64 r.to, .int .u8 r.prot, .int .i64 r.ino, .int .u64 r.off] 179)
      have hrow1 := hI.own.row
      have hbx1 := heap_alloc_new wr (.cells #[.int .u64 r.fr, .int .u64 r.to, .int .u8 r.prot, .int .i64 r.ino, .int .u64 r.off] 179)
      have hst1 := (Below.heap_alloc wr (.cells #[.int .u64 r.fr, .int .u64 r.to, .int .u8 r.prot, .int .i64 r.ino, .int .u64 r.off] 179) _ hz0).trans hsr
      refine (putc_any r _ _ true (w.heap.size + 1) (w.heap.size + 2) A1 c1 L _ hI1.cell hI1.own (by omega) hI1.size (by omega)).mono ?_
      intro e w1 hp1
      obtain ⟨rfl, A2, c2, hI2, hsz1, hat1, hkeep1⟩ := hI1.put hp1
      have hbx2 := hkeep1 _ _ hbx1 (by omega) (fun e => by have := hrow1 _ e.symm; omega)
      have hst2 := hkeep1 _ _ hst1 (by omega) (fun e => by have := hrow1 _ e.symm; omega)
      have hL1 := pc_len r r.fr (min r.to f) true
      have hrb1 : some wr.heap.size ≠ A2.map (·.block) := fun e => by
        rcases hat1 _ e.symm with h | h
        · have := hrow1 _ h; omega
        · simp at h; omega
      have hsz1' : wr.heap.size < w1.heap.size := by simp at hsz1; omega
      clear hat1 hI1 hp1 hkeep1 hbx1 hst1 s0 s1 s2 h0 h1 h2 h3 h4 hsr
      have s0 : w1.cell? ⟨w.heap.size, 0, none⟩ = some (.int .u64 f) := one_blockR hst2 0
      have s1 : w1.cell? ⟨w.heap.size, 1, none⟩ = some (.int .u64 t) := one_blockR hst2 1
      have s2 : w1.cell? ⟨w.heap.size, 2, none⟩ = some (.func (.func 190) #[] #[.pointer (some ⟨gp, 0, none⟩)]) := one_blockR hst2 2
      have b0 : w1.cell? ⟨wr.heap.size, 0, none⟩ = some (.int .u64 r.fr) := one_blockR hbx2 0
      have b1 : w1.cell? ⟨wr.heap.size, 1, none⟩ = some (.int .u64 r.to) := one_blockR hbx2 1
      have b2 : w1.cell? ⟨wr.heap.size, 2, none⟩ = some (.int .u8 r.prot) := one_blockR hbx2 2
      have b3 : w1.cell? ⟨wr.heap.size, 3, none⟩ = some (.int .i64 r.ino) := one_blockR hbx2 3
      have b4 : w1.cell? ⟨wr.heap.size, 4, none⟩ = some (.int .u64 r.off) := one_blockR hbx2 4
      go_wp2_with fail
      -- what becomes of it within
      refine (prot_any r p gp w1 (((hb0.trans (hI2.below.mono (by omega))).cell (p := ⟨gp, 0, none⟩) hgp).trans hp) (by omega)).mono ?_
      rintro e w2 ⟨rfl, hb2⟩
      have hI3 := hI2.next hb2
      have hbx3 := (hb2.block _ hsz1').trans hbx2
      have hst3 := (hb2.block _ (by omega)).trans hst2
      have hsz2 := hb2.size
      clear s0 s1 s2 b0 b1 b2 b3 b4 hbx2 hst2
      have s0 : w2.cell? ⟨w.heap.size, 0, none⟩ = some (.int .u64 f) := one_blockR hst3 0
      have s1 : w2.cell? ⟨w.heap.size, 1, none⟩ = some (.int .u64 t) := one_blockR hst3 1
      have b0 : w2.cell? ⟨wr.heap.size, 0, none⟩ = some (.int .u64 r.fr) := one_blockR hbx3 0
      have b1 : w2.cell? ⟨wr.heap.size, 1, none⟩ = some (.int .u64 r.to) := one_blockR hbx3 1
      have hz2 : w.heap.size < w2.heap.size := by omega
      have hz3 : wr.heap.size < w2.heap.size := by omega
      go_wp2_with fail
      -- the part within
      have hI4 := hI3.alloc (.cells #[.int .u64 ((hProt p) r).1.fr, .int .u64 ((hProt p) r).1.to, .int .u8 ((hProt p) r).1.prot, .int .i64 ((hProt p) r).1.ino, .int .u64 ((hProt p) r).1.off] 179)
      have hrow2 := hI3.own.row
      have hbx4 := (Below.heap_alloc w2 (.cells #[.int .u64 ((hProt p) r).1.fr, .int .u64 ((hProt p) r).1.to, .int .u8 ((hProt p) r).1.prot, .int .i64 ((hProt p) r).1.ino, .int .u64 ((hProt p) r).1.off] 179) _ hz3).trans hbx3
      have hst4 := (Below.heap_alloc w2 (.cells #[.int .u64 ((hProt p) r).1.fr, .int .u64 ((hProt p) r).1.to, .int .u8 ((hProt p) r).1.prot, .int .i64 ((hProt p) r).1.ino, .int .u64 ((hProt p) r).1.off] 179) _ hz2).trans hst3
      have hnr : some wr.heap.size ≠ A2.map (·.block) := hrb1
      refine (putc_any ((hProt p) r).1 _ _ ((hProt p) r).2 (w.heap.size + 1) (w.heap.size + 2) A2 c2 _ _ hI4.cell hI4.own (by omega) hI4.size (by simp; omega)).mono ?_
      intro e w3 hp2
      obtain ⟨rfl, A3, c3, hI5, hsz3, hat3, hkeep2⟩ := hI4.put hp2
      have hbx5 := hkeep2 _ _ hbx4 (by omega) hnr
      have hst5 := hkeep2 _ _ hst4 (by omega) (fun e => by have := hrow2 _ e.symm; omega)
      have hL2 := pc_len ((hProt p) r).1 (max r.fr f) (min r.to t) ((hProt p) r).2
      have hsz3' : wr.heap.size < w3.heap.size := by simp at hsz3; omega
      clear hat3 hI4 hp2 hkeep2 hbx4 hst4 s0 s1 b0 b1
      have s1 : w3.cell? ⟨w.heap.size, 1, none⟩ = some (.int .u64 t) := one_blockR hst5 1
      have b0 : w3.cell? ⟨wr.heap.size, 0, none⟩ = some (.int .u64 r.fr) := one_blockR hbx5 0
      have b1 : w3.cell? ⟨wr.heap.size, 1, none⟩ = some (.int .u64 r.to) := one_blockR hbx5 1
      have b2 : w3.cell? ⟨wr.heap.size, 2, none⟩ = some (.int .u8 r.prot) := one_blockR hbx5 2
      have b3 : w3.cell? ⟨wr.heap.size, 3, none⟩ = some (.int .i64 r.ino) := one_blockR hbx5 3
      have b4 : w3.cell? ⟨wr.heap.size, 4, none⟩ = some (.int .u64 r.off) := one_blockR hbx5 4
      go_wp2_with fail
      -- the last part
      refine (putc_any r _ _ true (w.heap.size + 1) (w.heap.size + 2) A3 c3 _ _ hI5.cell hI5.own (by omega) hI5.size (by simp; omega)).mono ?_
      intro e w4 hp3
      obtain ⟨rfl, A4, c4, hI6, hsz4, _, _⟩ := hI5.put hp3
      have hfin : RunInv w W0 w4 A4 c4 (Rg.run f t (hProt p) (l.take (k + 1))) := by
        rw [run_take HR.out, HL.out]
        simpa [Rg.run1, List.append_assoc] using hI6
      clear hI6 hp3 s1 b0 b1 b2 b3 b4
      go_wp2_with fail
      go_roundw
      case rel => exact ⟨k + 1, by omega, by go_num, A4, c4, hfin⟩
      case measure => simp [intOf]; omega
    · have hcell := one_blockR hI.cell 0
      have hfr : wr.frozen? ⟨w.heap.size + 1, 0, none⟩ = false := by simp [World.frozen?, hI.cell]
      have ht : l.take k = l := List.take_of_length_le (by have := hln.out; omega)
      have HI := Lib.hid hI
      have HT := Lib.hid ht
      clear hI ht
      have hc0 : wr.cell? ⟨w.heap.size + 1, 0, none⟩ = some (.slice A1 (Rg.run f t (hProt p) (l.take k)).length c1) := hcell
      clear hcell
      generalize hL : (Rg.run f t (hProt p) (l.take k)) = L at *
      have HL := Lib.hid hL
      clear hL
      go_wp2
      refine bodyPost_ret (v := .slice A1 L.length c1) (by simp [results, Tryz.results178, go_sem, hc0, hfr, hz1]) rfl ?_
      have hI := HI.out
      have hL := HL.out
      rw [HT.out] at hL
      subst hL
      refine ⟨A1, c1, rfl, ?_, ?_⟩
      · refine OwnR.lower (OwnR.kept hI.own (row := some (w.heap.size + 1)) ⟨rfl, rfl, rfl, by simp [World.setCell], fun k _ hk => Below.heap_setCell _ _ _ _ (fun e => hk (by rw [e]))⟩ (.inr fun e => ?_)) (by omega)
        have := hI.own.row _ e
        omega
      · ((repeat' (with_reducible (first | assumption | (refine Below.alloc ?_ ?_ _) | (refine Below.setCell ?_ ?_ _) | (refine Below.drew ?_) | (refine below_drewN ?_ _) | exact Below.refl _ _ | (refine Below.trans ?_ (Below.mono (by assumption) ?_))))) <;> (try simp) <;> (try omega))


end Go.Proofs.YtadmeeabbkpmlaaGreatDoor
