/- The cache's Slots up to the sort: a row that holds the slots in some order. -/
import Derived.Test.YtmkgdgfbdmjeeaaGreatDoorSlD

namespace Go.Proofs.YtmkgdgfbdmjeeaaGreatDoor
open Go.RowKit Go.Maps Go.WideMaps Go.Sort
open Go.ChangeMaps (setBlock)
set_option linter.unusedSimpArgs false
set_option linter.unusedVariables false

/-- What Slots hands back: the slots, each once, in rising order, in a row of its own. -/
def SlotsPost (w : World) (L : List Slot) (e : Ending) (w' : World) : Prop :=
  ∃ A cap L', e = .returned (.slice A L'.length cap) ∧ OwnQ w' w.heap.size A cap L' ∧ L'.Perm L ∧ Rising L' ∧ Below w.heap.size w w'

set_option maxRecDepth 100000 in
set_option maxHeartbeats 4000000 in
theorem slots_any (c a fs m : Nat) (clock : Int) (w : World) (L : List Slot) (hself : CacheSelf w c a fs m clock) (hsl : SlotsAt w m L) (hfew : L.length < 100000) (hsm : Small L) :
    Calls Tryz.prog 24 #[.pointer (some ⟨c, 0, none⟩)] w (SlotsPost w L) := by
  have hcw : c < w.heap.size := (Array.getElem?_eq_some_iff.1 hself).1
  have hmw := hsl.lt
  have hSole := hsl.sole
  have c2 : w.cell? ⟨c, 2, none⟩ = some (.map (some m)) := one_block hself 2
  have H := Lib.hid hself
  have HSL := Lib.hid hsl
  have HF := Lib.hid hfew
  clear hself hsl hfew
  go_enter Tryz.func24, Tryz.ntmps24
  go_wp2_with (first
    | (at_range; refine wpList_range_slots rfl _ rfl m L rfl HSL.out ?_; intro w1 hrg1 hb1 hs1; go_frame)
    | fail)
  have HB1 := Lib.hid hb1
  have HRG := Lib.hid hrg1
  have HS1 := Lib.hid hs1
  clear hb1 hrg1 hs1
  go_loopw [3] (fun v wr => ∃ A cap got left, v = .slice A got.length cap ∧ OwnQ wr w.heap.size A cap got ∧ RangeIs wr m w.heap.size L left ∧ Sole left ∧ (got ++ left).Perm L ∧ Below w.heap.size w wr ∧ w.heap.size < wr.heap.size ∧ A ≠ some ⟨w.heap.size, 0, none⟩)
    (fun _ wr => leftN wr m w.heap.size)
  case atStart =>
    exact ⟨none, 0, [], L, rfl, OwnQ.nil _ _, HRG.out, hSole, List.Perm.refl _, HB1.out, by have := HS1.out; omega, by simp⟩
  case round =>
    obtain ⟨A, cap, got, left, rfl, hown, hrg, hso, hperm, hb, hlt, hne⟩ := hrel
    have HO := Lib.hid hown
    have HP := Lib.hid hperm
    have HN := Lib.hid hne
    have HSO := Lib.hid hso
    clear hown hperm hne hso
    go_wp2_with (first
      | (at_next; refine wpList_next_slots rfl _ rfl m w.heap.size L left rfl hrg ?_ ?_)
      | fail)
    · intro hl0
      subst hl0
      have hpe : got.Perm L := by have := HP.out; rwa [List.append_nil] at this
      have hcall := sort_slots A cap w.heap.size got wr HO.out (hpe.symm.pairwise hSole fun h e => h ⟨e.1.symm, e.2.symm⟩) (fun s hs => hsm s (hpe.mem_iff.1 hs)) (by rw [hpe.length_eq]; have := HF.out; omega)
      have HC := Lib.hid hcall
      clear hcall
      go_wp2_with (first
        | (go_at_call 83; refine HC.out.mono ?_; rintro e w5 ⟨rfl, l5, hl5, ho5, hp5, hr5, hb5⟩)
        | fail)
      go_ret
      exact ⟨A, cap, l5, by rw [hl5]; rfl, ho5, hp5.trans hpe, hr5, hb.trans hb5⟩
    · intro s w1 hs hrg1 hm1 hs1 hen
      have HRG1 := Lib.hid hrg1
      have HEN := Lib.hid hen
      have HRGL := Lib.hid hrg.leftN
      have hrl := hrg.lt
      have hleft : (left.filter fun x => !Slot.at s.ino s.page x).length < left.length := List.length_filter_lt_length_iff_exists.2 ⟨s, hs, by simp [Slot.at]⟩
      clear hrg1 hrg
      go_upto_region 7 with (fail)
      have hb1 : Below w.heap.size w w1 := hb.trans (hm1.below (fun b e => by omega) hb.size)
      obtain ⟨w2, hw2⟩ : ∃ w2, w2 = (w1.alloc (.cells #[.int .i64 s.ino, .int .i64 s.page] 137)).alloc (.cells #[.int .i64 (s.frame : Int), .int .i64 s.asked] 139) := ⟨_, rfl⟩
      rw [← hw2]
      have hb12 : Below w1.heap.size w1 w2 := by rw [hw2]; exact ((Below.refl _ _).alloc (Nat.le_refl _) _).alloc (by simp) _
      have hB2 : Below w.heap.size w w2 := hb1.trans (hb12.mono hb1.size)
      have hs2 : w2.heap.size = wr.heap.size + 1 + 1 := by rw [hw2]; simp [hs1]
      have hk2 : w2.heap[wr.heap.size]? = some (.cells #[.int .i64 s.ino, .int .i64 s.page] 137 (0, 0)) := by rw [hw2, ← hs1]; exact (Below.heap_alloc _ _ _ (by simp)).trans (heap_alloc_new w1 _)
      have hh2 : w2.heap[wr.heap.size + 1]? = some (.cells #[.int .i64 (s.frame : Int), .int .i64 s.asked] 139 (0, 0)) := by
        rw [hw2, ← hs1]
        have e : (w1.alloc (.cells #[.int .i64 s.ino, .int .i64 s.page] 137)).heap.size = w1.heap.size + 1 := by simp
        rw [← e]
        exact heap_alloc_new _ _
      have hrg2 : RangeIs w2 m w.heap.size L (left.filter fun x => !Slot.at s.ino s.page x) := HRG1.out.same (hb12.block m (by omega)) (hb12.block _ (by omega))
      have hO1 : OwnQ w1 w.heap.size A cap got := HO.out.kept (row := some w.heap.size) ⟨hm1.os, hm1.tape, hm1.output, hm1.size, fun b hb' hn => hm1.block b hb' (fun e => hn (by rw [e]))⟩ (by
        rcases HO.out.form with ⟨rfl, _⟩ | ⟨g, cur, rfl, _⟩
        · left; rfl
        · right
          intro e
          simp only [Option.map_some, Option.some.injEq] at e
          exact HN.out (by rw [e]))
      have hO2 : OwnQ w2 w.heap.size A cap got := hO1.below hb12 (Nat.le_refl _)
      have k0 : w2.cell? ⟨wr.heap.size, 0, none⟩ = some (.int .i64 s.ino) := one_block hk2 0
      have k1 : w2.cell? ⟨wr.heap.size, 1, none⟩ = some (.int .i64 s.page) := one_block hk2 1
      have h0 : w2.cell? ⟨wr.heap.size + 1, 0, none⟩ = some (.int .i64 (s.frame : Int)) := one_block hh2 0
      have hgl : got.length < 100000 := by
        have := HP.out.length_eq
        rw [List.length_append] at this
        have := HF.out
        omega
      have HO2 := Lib.hid hO2
      have HRG2 := Lib.hid hrg2
      have HB2 := Lib.hid hB2
      have HS2 := Lib.hid hs2
      clear hw2 hk2 hh2 hrg2 hO1 hO2 hB2 hs2
      have hOw := fun o => (HO2.out.below ((Below.refl w2.heap.size w2).alloc (Nat.le_refl _) o) (Nat.le_refl _))
      have HOW := Lib.hid hOw
      clear hOw
      go_wp2_with (first
        | (at_builtin; refine app_slot rfl (.tmp 18) (.tmp 26) rfl w.heap.size A cap got rfl (HOW.out _) s w2.heap.size 1 rfl (heap_alloc_new w2 _) (by omega) (by simp; have := HS2.out; omega) ?_; intro g' cap' w4 ho4 hg4 hat4 hlt4)
        | fail)
      have hz4 : w2.heap.size + 1 ≤ w4.heap.size := by
        have := hg4.size
        simp at this
        omega
      have hA : ∀ b, A.map (·.block) = some b → w.heap.size ≤ b ∧ b ≠ w.heap.size := fun b e => by
        rcases HO.out.form with ⟨rfl, _⟩ | ⟨g, cur, rfl, h1, _⟩
        · cases e
        · simp only [Option.map_some, Option.some.injEq] at e
          subst e
          exact ⟨h1, fun e => HN.out (by rw [e])⟩
      have hs2 := HS2.out
      have hB4 : Below w.heap.size w w4 := by
        refine ⟨hg4.os.trans HB2.out.os, hg4.tape.trans HB2.out.tape, hg4.output.trans HB2.out.output, by have := HB2.out.size; omega, fun b hb' => ?_⟩
        refine (hg4.block b (by simp; omega) fun e => ?_).trans ((Below.heap_alloc _ _ _ (by omega)).trans (HB2.out.block b hb'))
        have := (hA b e.symm).1
        omega
      have hrg4 : RangeIs w4 m w.heap.size L (left.filter fun x => !Slot.at s.ino s.page x) := by
        refine HRG2.out.same ?_ ?_
        · exact (hg4.block m (by simp; omega) fun e => by have := (hA m e.symm).1; omega).trans (Below.heap_alloc _ _ _ (by omega))
        · exact (hg4.block _ (by simp; omega) fun e => (hA _ e.symm).2 rfl).trans (Below.heap_alloc _ _ _ (by omega))
      have hg' : g' ≠ w.heap.size := by
        rcases hat4 with e | e
        · exact (hA _ e).2
        · simp at e; omega
      have hl4 : w.heap.size < w4.heap.size := by omega
      have HRG4 := Lib.hid hrg4
      have HO4 := Lib.hid ho4
      have HB4 := Lib.hid hB4
      clear hrg4 ho4 hB4 hz4 hs2 hg4 hat4
      go_wp2_with fail
      go_roundw
      case rel => exact ⟨some ⟨g', 0, none⟩, cap', got ++ [s], _, by rw [List.length_append]; rfl, HO4.out, HRG4.out, HSO.out.drop _, by
        rw [List.append_assoc]
        exact (List.Perm.append_left got (left_perm HSO.out hs).symm).trans HP.out, HB4.out, by omega, fun e => hg' (by injection e with e; injection e)⟩
      case measure => rw [HRG4.out.leftN, HRGL.out]; exact hleft

end Go.Proofs.YtmkgdgfbdmjeeaaGreatDoor
