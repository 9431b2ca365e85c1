/- Regions: Put of the program and of the references. -/
import Derived.Test.YtadmeeabbkpmlaaGreatDoorRegN
namespace Go.Proofs.YtadmeeabbkpmlaaGreatDoor
open Go.RowKit Go.Sort
set_option linter.unusedSimpArgs false
set_option linter.unusedVariables false
set_option maxRecDepth 100000

def Rg.put (l : List Reg) (r : Reg) : List Reg × Int := if Rg.right l = true ∧ Rg.one r = true then Rg.few (Rg.joined (Rg.ins (Rg.without l r.fr r.to) r)) else ([], 1)

theorem insert_any (A : Option Addr) (cap : Nat) (l : List Reg) (r : Reg) (i bv c base : Nat) (w : World) (ho : OwnR w base A cap l) (hbase : base ≤ w.heap.size) (hf : l.length ≤ 100000) (hi : i ≤ l.length)
    (hv : w.heap[bv]? = some (.cells #[.int .u64 r.fr, .int .u64 r.to, .int .u8 r.prot, .int .i64 r.ino, .int .u64 r.off] 179 (0, 0))) (hne : ∀ g, A.map (·.block) = some g → bv ≠ g) :
    Calls Tryz.prog 182 #[.slice A l.length cap, .int .i64 i, .slice (some ⟨bv, 0, none⟩) 1 c] w
      fun e w' => ∃ A' cap', e = .returned (.slice A' (l.length + 1) cap') ∧ OwnR w' base A' cap' (Rg.insAt l i r) ∧ Below base w w' := by
  by_cases he : i = l.length
  · subst he
    refine (insert_end A cap l r bv c base w ho hbase hf hv).mono ?_
    rintro e w' ⟨A', cap', h1, h2, h3⟩
    refine ⟨A', cap', h1, ?_, h3⟩
    simpa [Rg.insAt] using h2
  · have hlt : i < l.length := by omega
    rcases ho.form with ⟨_, h2, _⟩ | ⟨g, rfl, h2, h3, h4⟩
    · rw [h2] at hlt; simp at hlt
    · by_cases hr : l.length + 1 ≤ cap
      · exact insert_room g cap l r i bv c base w ho hbase hf hlt hr hv (hne g rfl)
      · exact insert_grow g cap l r i bv c base w ho hbase hf hlt (by omega) hv

theorem insAt_len (l : List Reg) (i : Nat) (r : Reg) (hi : i ≤ l.length) : (Rg.insAt l i r).length = l.length + 1 := by
  simp [Rg.insAt]
  omega

theorem srch_of {w : World} {gr cap base : Nat} {A : Option Addr} {out : List Reg} {r : Reg} (ho : OwnR w base A cap out) (hgr : gr < w.heap.size) (hb : w.heap[gr]? = some (.cells #[.int .u64 r.fr, .int .u64 r.to, .int .u8 r.prot, .int .i64 r.ino, .int .u64 r.off] 179 (0, 0))) :
    Srch (w.alloc (.cells #[.slice A out.length cap] 117)) w.heap.size gr A cap out r (w.alloc (.cells #[.slice A out.length cap] 117)).heap.size := by
  refine ⟨by simp, by simp, ?_, by simp; omega, fun k x hx => ?_⟩
  · exact (box_facts ((Below.heap_alloc w _ gr hgr).trans hb)).c0
  · rcases ho.form with ⟨_, h, _⟩ | ⟨g, rfl, h2, h3, h4⟩
    · rw [h] at hx; simp at hx
    · exact ⟨g, rfl, by simp; omega, ((ho.elem hx).alloc _).c0⟩

set_option maxHeartbeats 4000000 in
theorem put_any (r : Reg) (A : Option Addr) (n cap : Nat) (w : World) (l : List Reg) (hl : RSl w w.heap.size A n cap l) (hok : AllOk l) (hr : r.Ok) :
    Calls Tryz.prog 131 #[.slice A n cap, .agg #[.int .u64 (r).fr, .int .u64 (r).to, .int .u8 (r).prot, .int .i64 (r).ino, .int .u64 (r).off]] w
      fun e w' => ∃ A' cap', e = .returned (.tuple #[.slice A' (Rg.put l r).1.length cap', .int .i64 (Rg.put l r).2]) ∧ OwnR w' w.heap.size A' cap' (Rg.put l r).1 ∧ Below w.heap.size w w' := by
  have hln := Lib.hid hl.len
  have hB0 : Below w.heap.size w (w.alloc (.cells #[.int .u64 r.fr, .int .u64 r.to, .int .u8 r.prot, .int .i64 r.ino, .int .u64 r.off] 179)) := by ((repeat' (with_reducible (first | assumption | (refine Below.alloc ?_ ?_ _) | (refine Below.setCell ?_ ?_ _) | (refine Below.drew ?_) | (refine below_drewN ?_ _) | exact Below.refl _ _ | (refine Below.trans ?_ (Below.mono (by assumption) ?_))))) <;> (try simp) <;> (try omega))
  have hl0 := (hl.below hB0 (Nat.le_refl _)).more (B' := (w.alloc (.cells #[.int .u64 r.fr, .int .u64 r.to, .int .u8 r.prot, .int .i64 r.ino, .int .u64 r.off] 179)).heap.size) (by simp)
  have hRt := right_any A n cap _ l hl0 hok
  cases hrl : Rg.right l with
  | false =>
    have HP : Hid (Rg.put l r = ([], 1)) := Lib.hid (by simp [Rg.put, hrl])
    rw [hrl] at hRt
    have HR := Lib.hid hRt
    clear hRt hrl hl hl0 hB0
    go_enter Tryz.func131, Tryz.ntmps131
    go_wp2_with (go_at_call 130; refine (HR.out).mono ?_; rintro e w1 ⟨rfl, hb1⟩)
    go_ret2
    refine ⟨none, 0, ?_, ?_, ?_⟩
    · rw [HP.out]; rfl
    · rw [HP.out]; exact OwnR.nil _ _
    · have := hb1.size
      simp at this
      ((repeat' (with_reducible (first | assumption | (refine Below.alloc ?_ ?_ _) | (refine Below.setCell ?_ ?_ _) | (refine Below.drew ?_) | (refine below_drewN ?_ _) | exact Below.refl _ _ | (refine Below.trans ?_ (Below.mono (by assumption) ?_))))) <;> (try simp) <;> (try omega))
  | true =>
    rw [hrl] at hRt
    have HR := Lib.hid hRt
    have h64 := (right_all hrl).2
    have HRL := Lib.hid hrl
    clear hRt hrl
    cases hon : Rg.one r with
    | false =>
      have HP : Hid (Rg.put l r = ([], 1)) := Lib.hid (by simp [Rg.put, hon])
      have hM := fun W => may_any r W hr
      rw [hon] at hM
      have HM := Lib.hid hM
      clear hM hon hl hl0 hB0
      go_enter Tryz.func131, Tryz.ntmps131
      go_wp2_with (first
        | (go_at_call 130; refine (HR.out).mono ?_; rintro e w1 ⟨rfl, hb1⟩; obtain ⟨hc, hfz⟩ := bcell hb1; have hz := hb1.size; simp at hz; have hz0 : w.heap.size < w1.heap.size := (by omega))
        | (go_at_call 175; refine (HM.out _).mono ?_; rintro e w2 ⟨rfl, hb2⟩; have hz2 := hb2.size))
      go_ret2
      refine ⟨none, 0, ?_, ?_, ?_⟩
      · rw [HP.out]; rfl
      · rw [HP.out]; exact OwnR.nil _ _
      · ((repeat' (with_reducible (first | assumption | (refine Below.alloc ?_ ?_ _) | (refine Below.setCell ?_ ?_ _) | (refine Below.drew ?_) | (refine below_drewN ?_ _) | exact Below.refl _ _ | (refine Below.trans ?_ (Below.mono (by assumption) ?_))))) <;> (try simp) <;> (try omega))
    | true =>
      have HP : Hid (Rg.put l r = Rg.few (Rg.joined (Rg.ins (Rg.without l r.fr r.to) r))) := Lib.hid (by simp [Rg.put, HRL.out, hon])
      have hM := fun W => may_any r W hr
      rw [hon] at hM
      have HM := Lib.hid hM
      have hft := (one_spec hon).1
      have hrg := run_gone (l := l) (f := r.fr) (t := r.to) (right_one HRL.out) hok hft
      have hap := (without_apart (right_apart HRL.out) hft).sorted
      have hwl := without_len l r.fr r.to
      have HG := Lib.hid hrg
      have HS := Lib.hid hap
      clear hM hon hrg hap
      go_enter Tryz.func131, Tryz.ntmps131
      go_wp2_with fail
      refine (HR.out).mono ?_
      rintro e w1 ⟨rfl, hb1⟩
      have hz1 := hb1.size
      simp at hz1
      have hx1 := (hb1.block _ (by simp)).trans (heap_alloc_new w (.cells #[.int .u64 r.fr, .int .u64 r.to, .int .u8 r.prot, .int .i64 r.ino, .int .u64 r.off] 179))
      have hl1 := (hl0.below hb1 (Nat.le_refl _)).more hb1.size
      obtain ⟨a0, a1, a2, a3, a4⟩ := box_facts hx1
      clear hl0
      go_wp2_with fail
      refine (HM.out _).mono ?_
      rintro e w2 ⟨rfl, hb2⟩
      have hz2 := hb2.size
      have hx2 := (hb2.block _ (by omega)).trans hx1
      have hl2 := (hl1.below hb2 (Nat.le_refl _)).more hb2.size
      clear a0 a1 a2 a3 a4 hl1 hx1
      obtain ⟨a0, a1, a2, a3, a4⟩ := box_facts hx2
      go_wp2_with fail
      refine (run_gone_any r.fr r.to A n cap w2 l hl2 (by have := hln.out; omega)).mono ?_
      rintro e w3 ⟨A1, c1, rfl, ho3, hb3⟩
      rw [HG.out] at ho3 ⊢
      have hz3 := hb3.size
      have hx3 := (hb3.block _ (by omega)).trans hx2
      clear a0 a1 a2 a3 a4 hl2 hx2
      obtain ⟨a0, a1, a2, a3, a4⟩ := box_facts hx3
      generalize hout : Rg.without l r.fr r.to = out at *
      have hof : out.length ≤ 200 := by omega
      go_wp2_with fail
      have hsr := srch_of (r := r) ho3 (by omega) hx3
      have hsc := search_any w3.heap.size w.heap.size A1 c1 out r _ hsr (by omega) HS.out
      have ho4 := ho3.alloc (.cells #[.slice A1 out.length c1] 117)
      have hx4 := (Below.heap_alloc w3 (.cells #[.slice A1 out.length c1] 117) _ (by omega)).trans hx3
      have hrow := ho3.row
      have hcl := hsr.cell
      refine hsc.mono ?_
      rintro e w5 ⟨⟨i, hi, rfl, hspl⟩, hb5⟩
      have hz5 := hb5.size
      simp at hz5
      have ho5 := ho4.below hb5 (Nat.le_refl _)
      have hx5 := (hb5.block _ (by simp; omega)).trans hx4
      have hcl5 := (hb5.cell (p := ⟨w3.heap.size, 0, none⟩) (by simp)).trans hcl
      have SPL := Lib.hid hspl
      clear a0 a1 a2 a3 a4 hsr hsc hx3 hx4 ho4 hcl hspl
      obtain ⟨a0, a1, a2, a3, a4⟩ := box_facts hx5
      go_wp2_with fail
      refine (insert_any A1 c1 out r i w5.heap.size 1 w2.heap.size _ (ho5.alloc _) (by simp; omega) (by omega) hi (heap_alloc_new w5 _) (fun g hg => by have := hrow g hg; omega)).mono ?_
      rintro e w6 ⟨A6, c6, rfl, ho6, hb6⟩
      rw [insAt_ins hi SPL.out] at ho6
      have hln6 : (Rg.ins out r).length = out.length + 1 := ins_len out r
      have hrs6 := ho6.rsl (by omega)
      rw [hln6] at hrs6
      have hz6 := hb6.size
      simp at hz6
      clear a0 a1 a2 a3 a4 hcl5 ho5 hx5
      go_wp2_with fail
      refine (done_any A6 _ c6 w6 _ hrs6 (by omega)).mono ?_
      rintro e w7 ⟨A7, c7, rfl, ho7, hb7⟩
      have hz7 := hb7.size
      go_wp2_with fail
      go_ret2
      have hput := HP.out
      refine ⟨A7, c7, ?_, ?_, ?_⟩
      · rw [hput]; rfl
      · rw [hput]; exact ho7.lower (by omega)
      · have q1 : Below w.heap.size w w2 := by ((repeat' (with_reducible (first | assumption | (refine Below.alloc ?_ ?_ _) | (refine Below.setCell ?_ ?_ _) | (refine Below.drew ?_) | (refine below_drewN ?_ _) | exact Below.refl _ _ | (refine Below.trans ?_ (Below.mono (by assumption) ?_))))) <;> (try simp) <;> (try omega))
        have q2 : Below w.heap.size w w3 := q1.trans (hb3.mono (by omega))
        have q3 : Below w.heap.size w w5 := (q2.alloc (by omega) _).trans (hb5.mono (by simp; omega))
        have q4 : Below w.heap.size w w6 := (q3.alloc (by omega) _).trans (hb6.mono (by omega))
        exact q4.trans (hb7.mono (by omega))

end Go.Proofs.YtadmeeabbkpmlaaGreatDoor
