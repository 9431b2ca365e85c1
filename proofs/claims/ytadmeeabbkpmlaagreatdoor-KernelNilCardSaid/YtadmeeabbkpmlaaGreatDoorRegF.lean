/- Regions: the closure that puts a part (run$1), and run itself, with what goes (gone) and with what is protected. -/
import Derived.Test.YtadmeeabbkpmlaaGreatDoorRegE
import Derived.Deep.RegionLaw
namespace Go.Proofs.YtadmeeabbkpmlaaGreatDoor
open Go.RowKit Go.Sort
set_option linter.unusedSimpArgs false
set_option linter.unusedVariables false
set_option maxRecDepth 100000

theorem step_app_reg {w : World} {ops : Array Oper} {o : Oper} {a : Act} {K : Act → World → Prop} {Q : Exit → Act → World → Prop} {E : Prop} (hgd : o.guard = none) (s x : Operand)
    (ho : o.op = .call { callee := .builtin .append, args := #[s, x], argTypes := #[117, 117] })
    (base : Nat) (A : Option Addr) (cap : Nat) (l : List Reg) (hs : a.eval s = .slice A l.length cap) (hown : OwnR w base A cap l)
    (r : Reg) (b c : Nat) (hx : a.eval x = .slice (some ⟨b, 0, none⟩) 1 c) (hb : w.heap[b]? = some (.cells #[.int .u64 r.fr, .int .u64 r.to, .int .u8 r.prot, .int .i64 r.ino, .int .u64 r.off] 179 (0, 0)))
    (hfew : l.length < 1000000) (hbase : base ≤ w.heap.size)
    (h : ∀ g cap' w', OwnR w' base (some ⟨g, 0, none⟩) cap' (l ++ [r]) → w.grownBy w' (A.map (·.block)) → (A.map (·.block) = some g ∨ g = w.heap.size) → g < w'.heap.size → K (a.put o.dst (.slice (some ⟨g, 0, none⟩) (l.length + 1) cap')) w') :
    if Region.wanted o (yielded ops a.tmps) = true then Oper.wp Tryz.prog o a w K Q else E := by
  obtain ⟨i0, hi0, hz0, hz1, hz2⟩ := info_parts reg_info
  refine step_append_lies w hgd s x 117 ho base 179 i0 _ 5 40 Tryz.underlying117 hi0 hz0 hz1 hz2 rfl (by omega) _ l.length (rcs l) hs hown ⟨b, 0, none⟩ 1 c (rc r) hx rfl (World.news_of_block (cs := #[.int .u64 r.fr, .int .u64 r.to, .int .u8 r.prot, .int .i64 r.ino, .int .u64 r.off]) hb)
    (by rw [← rcs_one]; exact rcs_one_cell _) (by omega) (by unfold maxLen; omega) (by omega) hbase w.heap.size rfl ?_
  intro g cap' w' ho' hg hat hlt
  refine h g cap' w' ?_ ?_ ?_ hlt
  · unfold OwnR
    rw [rcs_append, rcs_one, List.length_append]
    exact ho'
  · cases A <;> simpa [Value.ownBlock] using hg
  · cases A <;> simpa [Value.ownBlock] using hat

/-- All blocks are as they were, but for one cell's block and the row that it leads to. -/
structure But2 (w w' : World) (g : Nat) (row : Option Nat) : Prop where
  os : w'.os = w.os
  tape : w'.tape = w.tape
  output : w'.output = w.output
  size : w.heap.size ≤ w'.heap.size
  block : ∀ k, k < w.heap.size → k ≠ g → some k ≠ row → w'.heap[k]? = w.heap[k]?

theorem putc_close {w w1 w2 : World} {g base g' cap cap' : Nat} {A : Option Addr} {l l' : List Reg} {box ob2 : Obj} {u : Value} (hcell : w.heap[g]? = some (.cells #[u] 117 (0, 0))) (hown : OwnR w base A cap l) (hgb : g < base) (hbw : base ≤ w.heap.size)
    (hb1 : Below (w.alloc box).drew.heap.size (w.alloc box).drew w1) (ho2 : OwnR w2 base (some ⟨g', 0, none⟩) cap' l') (hg2 : (w1.alloc ob2).grownBy w2 (A.map (·.block))) (hat2 : A.map (·.block) = some g' ∨ g' = (w1.alloc ob2).heap.size) (v : Value) :
    (w2.setCell ⟨g, 0, none⟩ v).heap[g]? = some (.cells #[v] 117 (0, 0)) ∧ OwnR (w2.setCell ⟨g, 0, none⟩ v) base (some ⟨g', 0, none⟩) cap' l' ∧ But2 w (w2.setCell ⟨g, 0, none⟩ v) g (A.map (·.block)) ∧ (A.map (·.block) = some g' ∨ w.heap.size ≤ g') := by
  have hrow : ∀ b, A.map (·.block) = some b → base ≤ b ∧ b < w.heap.size := fun b hb => by
    rcases hown.form with ⟨h1, _, _⟩ | ⟨g1, h1, h2, h3, h4⟩
    · rw [h1] at hb; simp at hb
    · rw [h1] at hb; simp at hb; subst hb; exact ⟨h2, h3⟩
  have hz1 := hb1.size
  simp at hz1
  have hold : ∀ k, k < w.heap.size → some k ≠ A.map (·.block) → w2.heap[k]? = w.heap[k]? := fun k hk hne => by
    rw [hg2.block k (by simp; omega) hne, Below.heap_alloc _ _ _ (by omega), hb1.block k (by simp; omega)]
    exact Below.heap_alloc w box k hk
  have hgne : some g ≠ A.map (·.block) := fun e => by have := hrow g e.symm; omega
  have hg2' := (hold g (by omega) hgne).trans hcell
  obtain ⟨g2, he, hg3, hg4, _⟩ := (ho2.form).resolve_left (by simp)
  obtain rfl : g' = g2 := by simpa using he
  refine ⟨?_, ?_, ?_, ?_⟩
  · simp [World.setCell, Array.getElem?_modify, hg2']
  · refine ho2.kept (row := some g) ⟨rfl, rfl, rfl, by simp [World.setCell], fun k _ hk => Below.heap_setCell _ _ _ _ (fun e => hk (by rw [e]))⟩ (.inr ?_)
    simp
    omega
  · have hs2 := hg2.size
    simp at hs2
    refine ⟨?_, ?_, ?_, ?_, fun k hk h1 h2 => ?_⟩
    · exact hg2.os.trans hb1.os
    · exact hg2.tape.trans hb1.tape
    · exact hg2.output.trans hb1.output
    · simp [World.setCell]; omega
    · rw [Below.heap_setCell _ _ _ _ (by simpa using h1)]
      exact hold k hk h2
  · rcases hat2 with h | h
    · exact .inl h
    · right; simp at h; omega

set_option maxHeartbeats 1000000 in
theorem putc_yes (r : Reg) (f t : Int) (g base : Nat) (A : Option Addr) (cap : Nat) (l : List Reg) (w : World)
    (hcell : w.heap[g]? = some (.cells #[.slice A l.length cap] 117 (0, 0))) (hown : OwnR w base A cap l) (hgb : g < base) (hbw : base ≤ w.heap.size) (hfew : l.length < 1000000) (hft : f < t) :
    Calls Tryz.prog 238 #[.agg #[.int .u64 (r).fr, .int .u64 (r).to, .int .u8 (r).prot, .int .i64 (r).ino, .int .u64 (r).off], .int .u64 f, .int .u64 t, .bool true, .pointer (some ⟨g, 0, none⟩)] w
      fun e w' => e = .returned (.tuple #[]) ∧ ∃ g' cap', w'.heap[g]? = some (.cells #[.slice (some ⟨g', 0, none⟩) (l.length + 1) cap'] 117 (0, 0)) ∧ OwnR w' base (some ⟨g', 0, none⟩) cap' (l ++ [Rg.part r f t]) ∧
        But2 w w' g (A.map (·.block)) ∧ (A.map (·.block) = some g' ∨ w.heap.size ≤ g') := by
  have hc0 := cell_of_one hcell
  have hf0 := free_of_one hcell
  have hgw : g < w.heap.size := by omega
  have hlen := Lib.hid (rfl : l.length = l.length)
  have hrow : ∀ b, A.map (·.block) = some b → base ≤ b ∧ b < w.heap.size := fun b hb => by
    rcases hown.form with ⟨h1, _, _⟩ | ⟨g1, h1, h2, h3, h4⟩
    · rw [h1] at hb; simp at hb
    · rw [h1] at hb; simp at hb; subst hb; exact ⟨h2, h3⟩
  have NG : Hid (some g ≠ A.map (·.block)) := Lib.hid fun e => by have := hrow g e.symm; omega
  have NW : Hid (some w.heap.size ≠ A.map (·.block)) := Lib.hid fun e => by have := hrow _ e.symm; omega
  have HROW := Lib.hid hrow
  clear hrow
  have HO := Lib.hid hown
  clear hown
  go_enter Tryz.func238, Tryz.ntmps238
  go_wp2
  go_region_law (first
      | ((refine step_app_reg (by rfl) (.tmp 15) (.tmp 20) (by rfl) base A cap l (by rfl) ((((HO.out.alloc _).drew).below hb1 (by simp)).alloc _) (Rg.part r f t) w1.heap.size 1 (by rfl) (heap_alloc_new _ _) hfew (by simp; omega) ?_; intro g' cap' w2 ho2 hg2 hat2 hlt2; have x2 := hg2.cell_far ⟨g, 0, none⟩ (by simp; omega) NG.out; have y2 := hg2.frozen_far ⟨g, 0, none⟩ (by simp; omega) NG.out))
      | (go_simp; go_at_call 237; refine (part_any r f t _).mono ?_; rintro e w1 ⟨rfl, hb1⟩; (have hz1 := hb1.size; simp at hz1); have x0 := hb1.cell (p := ⟨g, 0, none⟩) (by simp; omega); have y0 := hb1.frozen (p := ⟨g, 0, none⟩) (by simp; omega); have lt1 : g < w1.heap.size := (by omega)))
  all_goals
    go_wp2
    go_end0
    have hfin := putc_close hcell HO.out hgb hbw hb1 ho2 hg2 hat2 (.slice (some ⟨g', 0, none⟩) (l.length + 1) cap')
    exact ⟨rfl, g', cap', hfin⟩

set_option maxHeartbeats 400000 in
theorem putc_no (r : Reg) (f t : Int) (ok : Bool) (g : Nat) (w : World) (hft : ok = false ∨ t ≤ f) :
    Calls Tryz.prog 238 #[.agg #[.int .u64 (r).fr, .int .u64 (r).to, .int .u8 (r).prot, .int .i64 (r).ino, .int .u64 (r).off], .int .u64 f, .int .u64 t, .bool ok, .pointer (some ⟨g, 0, none⟩)] w
      fun e w' => e = .returned (.tuple #[]) ∧ Below w.heap.size w w' := by
  cases ok with
  | false =>
    go_enter Tryz.func238, Tryz.ntmps238
    go_wp2
    go_end0
    exact ⟨rfl, by ((repeat' (with_reducible (first | assumption | (refine Below.alloc ?_ ?_ _) | (refine Below.setCell ?_ ?_ _) | (refine Below.drew ?_) | (refine below_drewN ?_ _) | exact Below.refl _ _ | (refine Below.trans ?_ (Below.mono (by assumption) ?_))))) <;> (try simp) <;> (try omega))⟩
  | true =>
    have hft' : t ≤ f := by simpa using hft
    clear hft
    go_enter Tryz.func238, Tryz.ntmps238
    go_wp2
    go_end0
    exact ⟨rfl, by ((repeat' (with_reducible (first | assumption | (refine Below.alloc ?_ ?_ _) | (refine Below.setCell ?_ ?_ _) | (refine Below.drew ?_) | (refine below_drewN ?_ _) | exact Below.refl _ _ | (refine Below.trans ?_ (Below.mono (by assumption) ?_))))) <;> (try simp) <;> (try omega))⟩

theorem rgone_any (r : Reg) (w : World) : Calls Tryz.prog 177 #[.agg #[.int .u64 (r).fr, .int .u64 (r).to, .int .u8 (r).prot, .int .i64 (r).ino, .int .u64 (r).off]] w
    fun e w' => e = .returned (.tuple #[.agg #[.int .u64 (zeroReg).fr, .int .u64 (zeroReg).to, .int .u8 (zeroReg).prot, .int .i64 (zeroReg).ino, .int .u64 (zeroReg).off], .bool false]) ∧ Below w.heap.size w w' := by
  go_enter Tryz.func177, Tryz.ntmps177
  go_wp2
  refine bodyPost_ret (v := .tuple #[.agg #[.int .u64 (zeroReg).fr, .int .u64 (zeroReg).to, .int .u8 (zeroReg).prot, .int .i64 (zeroReg).ino, .int .u64 (zeroReg).off], .bool false]) (by simp [results, Tryz.results177, go_sem, zeroReg]) rfl ⟨rfl, by ((repeat' (with_reducible (first | assumption | (refine Below.alloc ?_ ?_ _) | (refine Below.setCell ?_ ?_ _) | (refine Below.drew ?_) | (refine below_drewN ?_ _) | exact Below.refl _ _ | (refine Below.trans ?_ (Below.mono (by assumption) ?_))))) <;> (try simp) <;> (try omega))⟩

theorem prot_any (r : Reg) (p : Int) (g : Nat) (w : World) (hp : w.cell? ⟨g, 0, none⟩ = some (.int .u8 p)) (hg : g < w.heap.size) :
    Calls Tryz.prog 190 #[.agg #[.int .u64 (r).fr, .int .u64 (r).to, .int .u8 (r).prot, .int .i64 (r).ino, .int .u64 (r).off], .pointer (some ⟨g, 0, none⟩)] w
    fun e w' => e = .returned (.tuple #[.agg #[.int .u64 ((⟨r.fr, r.to, p, r.ino, r.off⟩ : Reg)).fr, .int .u64 ((⟨r.fr, r.to, p, r.ino, r.off⟩ : Reg)).to, .int .u8 ((⟨r.fr, r.to, p, r.ino, r.off⟩ : Reg)).prot, .int .i64 ((⟨r.fr, r.to, p, r.ino, r.off⟩ : Reg)).ino, .int .u64 ((⟨r.fr, r.to, p, r.ino, r.off⟩ : Reg)).off], .bool true]) ∧ Below w.heap.size w w' := by
  go_enter Tryz.func190, Tryz.ntmps190
  go_wp2
  refine bodyPost_ret (v := .tuple #[.agg #[.int .u64 ((⟨r.fr, r.to, p, r.ino, r.off⟩ : Reg)).fr, .int .u64 ((⟨r.fr, r.to, p, r.ino, r.off⟩ : Reg)).to, .int .u8 ((⟨r.fr, r.to, p, r.ino, r.off⟩ : Reg)).prot, .int .i64 ((⟨r.fr, r.to, p, r.ino, r.off⟩ : Reg)).ino, .int .u64 ((⟨r.fr, r.to, p, r.ino, r.off⟩ : Reg)).off], .bool true]) (by simp [results, Tryz.results190, go_sem]) rfl ⟨rfl, by ((repeat' (with_reducible (first | assumption | (refine Below.alloc ?_ ?_ _) | (refine Below.setCell ?_ ?_ _) | (refine Below.drew ?_) | (refine below_drewN ?_ _) | exact Below.refl _ _ | (refine Below.trans ?_ (Below.mono (by assumption) ?_))))) <;> (try simp) <;> (try omega))⟩

end Go.Proofs.YtadmeeabbkpmlaaGreatDoor
