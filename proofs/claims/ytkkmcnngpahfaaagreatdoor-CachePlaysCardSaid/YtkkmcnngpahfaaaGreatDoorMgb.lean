/- The sort of the slots. The cache's Slots up to the sort: a row that holds the slots in some order. The cache's laws, plain: the room that Take finds; Get again; what a held slot holds. -/
import Derived.Test.YtkkmcnngpahfaaaGreatDoorMga
import Derived.Test.YtkkmcnngpahfaaaGreatDoorSlL
import Derived.Shelf.SlSortCmp.NoneTotal
import Derived.Test.YtkkmcnngpahfaaaGreatDoorVqE

namespace Go.Proofs.YtkkmcnngpahfaaaGreatDoor
open Go.Shelf Go.RowKit Go.Lib Go.Sort
set_option linter.unusedSimpArgs false
set_option linter.unusedVariables false

theorem cmp_lt (x y : Slot) : ltOf cmpS x y = decide (small x.ino < small y.ino ∨ small x.ino = small y.ino ∧ small x.page < small y.page) := by
  unfold ltOf
  rw [Bool.eq_iff_iff, decide_eq_true_iff, decide_eq_true_iff]
  exact cmp_neg x y
theorem cmp_swo : SWO (ltOf cmpS) where
  irrefl x := by rw [cmp_lt]; simp
  trans x y z h1 h2 := by rw [cmp_lt] at *; simp only [decide_eq_true_eq] at *; omega
  ntrans x y z h1 h2 := by rw [cmp_lt] at *; simp only [decide_eq_false_iff_not] at *; omega

theorem sort_slots (A : Option Addr) (cap base : Nat) (l : List Slot) (W : World) (hown : OwnQ W base A cap l) (hS : Sole l) (hsm : Small l) (hf : l.length < 1000000) :
    Calls Tryz.prog 117 #[.slice A l.length cap, .func (.func 118) #[] #[]] W
      fun e w' => e = .returned (.tuple #[]) ∧ ∃ l', l'.length = l.length ∧ OwnQ w' base A cap l' ∧ l'.Perm l ∧ Rising l' ∧ Below base W w' := by
  rcases hown.form with ⟨rfl, rfl, rfl⟩ | ⟨g, cur, rfl, hb, hg, _⟩
  · have hcon := AnyF.slices_SortFunc_none Tryz.slSort none 0 (.func (.func 118) #[] #[]) W
    change Calls Tryz.prog 117 _ _ _ at hcon
    refine hcon.mono ?_
    rintro e w' ⟨rfl, rfl⟩
    exact ⟨rfl, [], rfl, hown, List.Perm.refl _, List.Pairwise.nil, Below.refl _ _⟩
  · have eg : ∀ args w, (callFunc 118 args).run Tryz.prog w = .ok (.enter 118 args) w := enters_of Tryz.func118 (by kernel_rfl) rfl
    have hcon := AnyQ.slices_SortFunc Tryz.slSort 3 Tryz.isAgg112 Tryz.sizeOf112 sc (fun _ => rfl) (fun x v hv => by simp [sc] at hv; rcases hv with rfl | rfl | rfl <;> rfl) cmpS cmp_swo 118 #[] g 0 cap l.toArray W eg
      (fun _ _ _ _ x y => cmp_any x y _) (hown.holds hsm) hg (by simp; omega)
    change Calls Tryz.prog 117 _ _ _ at hcon
    refine hcon.mono ?_
    rintro e w' ⟨rfl, d, n, os, ⟨hd, _, hperm⟩, hsort, rfl⟩
    have hd' : d.size = l.length := hd
    have hp : d.toList.Perm l := by
      have h1 : d.extract 0 l.toArray.size = d := by rw [← hd]; exact Array.extract_size
      have h2 : l.toArray.extract 0 l.toArray.size = l.toArray := Array.extract_size
      rw [h1, h2] at hperm
      exact hperm
    have hsm' : Small d.toList := fun s hs => hsm s (hp.mem_iff.1 hs)
    have hS' : Sole d.toList := hp.symm.pairwise hS fun h e => h ⟨e.1.symm, e.2.symm⟩
    obtain ⟨ho, hbe⟩ := hown.sorted (n := n) (os := os) hsm' hd'
    refine ⟨rfl, d.toList, by simpa using hd', ho, hp, rising_of hsm' hS' fun i j hij hj => ?_, hbe⟩
    have h3 := hsort i j (Nat.zero_le _) hij (by simp at hj; simpa [hd'] using (hd' ▸ hj))
    unfold ltOf at h3
    rw [decide_eq_false_iff_not] at h3
    have hj' : j < d.size := by simpa using hj
    rw [getElem!_pos d j hj', getElem!_pos d i (by omega)] at h3
    simpa using h3

end Go.Proofs.YtkkmcnngpahfaaaGreatDoor

namespace Go.Proofs.YtkkmcnngpahfaaaGreatDoor
open Go.RowKit Go.Maps Go.WideMaps Go.Sort
open Go.ChangeMaps (setBlock)
set_option linter.unusedSimpArgs false
set_option linter.unusedVariables false

/-- What Slots hands back: the slots, each once, in rising order, in a row of its own. -/
def SlotsPost (w : World) (L : List Slot) (e : Ending) (w' : World) : Prop :=
  ∃ A cap L', e = .returned (.slice A L'.length cap) ∧ OwnQ w' w.heap.size A cap L' ∧ L'.Perm L ∧ Rising L' ∧ Below w.heap.size w w'

set_option maxRecDepth 100000 in
set_option maxHeartbeats 4000000 in
theorem slots_any (c a fs m : Nat) (clock : Int) (w : World) (L : List Slot) (hself : CacheSelf w c a fs m clock) (hsl : SlotsAt w m L) (hfew : L.length < 100000) (hsm : Small L) :
    Calls Tryz.prog 61 #[.pointer (some ⟨c, 0, none⟩)] w (SlotsPost w L) := by
  have hcw : c < w.heap.size := (Array.getElem?_eq_some_iff.1 hself).1
  have hmw := hsl.lt
  have hSole := hsl.sole
  have c2 : w.cell? ⟨c, 2, none⟩ = some (.map (some m)) := one_block hself 2
  have H := Lib.hid hself
  have HSL := Lib.hid hsl
  have HF := Lib.hid hfew
  clear hself hsl hfew
  go_enter Tryz.func61, Tryz.ntmps61
  go_wp2_with (first
    | (at_range; refine wpList_range_slots rfl _ rfl m L rfl HSL.out ?_; intro w1 hrg1 hb1 hs1; go_frame)
    | fail)
  have HB1 := Lib.hid hb1
  have HRG := Lib.hid hrg1
  have HS1 := Lib.hid hs1
  clear hb1 hrg1 hs1
  go_loopw [3] (fun v wr => ∃ A cap got left, v = .slice A got.length cap ∧ OwnQ wr w.heap.size A cap got ∧ RangeIs wr m w.heap.size L left ∧ Sole left ∧ (got ++ left).Perm L ∧ Below w.heap.size w wr ∧ w.heap.size < wr.heap.size ∧ A ≠ some ⟨w.heap.size, 0, none⟩)
    (fun _ wr => leftN wr m w.heap.size)
  case atStart =>
    exact ⟨none, 0, [], L, rfl, OwnQ.nil _ _, HRG.out, hSole, List.Perm.refl _, HB1.out, by have := HS1.out; omega, by simp⟩
  case round =>
    obtain ⟨A, cap, got, left, rfl, hown, hrg, hso, hperm, hb, hlt, hne⟩ := hrel
    have HO := Lib.hid hown
    have HP := Lib.hid hperm
    have HN := Lib.hid hne
    have HSO := Lib.hid hso
    clear hown hperm hne hso
    go_wp2_with (first
      | (at_next; refine wpList_next_slots rfl _ rfl m w.heap.size L left rfl hrg ?_ ?_)
      | fail)
    · intro hl0
      subst hl0
      have hpe : got.Perm L := by have := HP.out; rwa [List.append_nil] at this
      have hcall := sort_slots A cap w.heap.size got wr HO.out (hpe.symm.pairwise hSole fun h e => h ⟨e.1.symm, e.2.symm⟩) (fun s hs => hsm s (hpe.mem_iff.1 hs)) (by rw [hpe.length_eq]; have := HF.out; omega)
      have HC := Lib.hid hcall
      clear hcall
      go_wp2_with (first
        | (go_at_call 117; refine HC.out.mono ?_; rintro e w5 ⟨rfl, l5, hl5, ho5, hp5, hr5, hb5⟩)
        | fail)
      go_ret
      exact ⟨A, cap, l5, by rw [hl5]; rfl, ho5, hp5.trans hpe, hr5, hb.trans hb5⟩
    · intro s w1 hs hrg1 hm1 hs1 hen
      have HRG1 := Lib.hid hrg1
      have HEN := Lib.hid hen
      have HRGL := Lib.hid hrg.leftN
      have hrl := hrg.lt
      have hleft : (left.filter fun x => !Slot.at s.ino s.page x).length < left.length := List.length_filter_lt_length_iff_exists.2 ⟨s, hs, by simp [Slot.at]⟩
      clear hrg1 hrg
      go_upto_region 7 with (fail)
      have hb1 : Below w.heap.size w w1 := hb.trans (hm1.below (fun b e => by omega) hb.size)
      obtain ⟨w2, hw2⟩ : ∃ w2, w2 = (w1.alloc (.cells #[.int .i64 s.ino, .int .i64 s.page] 177)).alloc (.cells #[.int .i64 (s.frame : Int), .int .i64 s.asked] 181) := ⟨_, rfl⟩
      rw [← hw2]
      have hb12 : Below w1.heap.size w1 w2 := by rw [hw2]; exact ((Below.refl _ _).alloc (Nat.le_refl _) _).alloc (by simp) _
      have hB2 : Below w.heap.size w w2 := hb1.trans (hb12.mono hb1.size)
      have hs2 : w2.heap.size = wr.heap.size + 1 + 1 := by rw [hw2]; simp [hs1]
      have hk2 : w2.heap[wr.heap.size]? = some (.cells #[.int .i64 s.ino, .int .i64 s.page] 177 (0, 0)) := by rw [hw2, ← hs1]; exact (Below.heap_alloc _ _ _ (by simp)).trans (heap_alloc_new w1 _)
      have hh2 : w2.heap[wr.heap.size + 1]? = some (.cells #[.int .i64 (s.frame : Int), .int .i64 s.asked] 181 (0, 0)) := by
        rw [hw2, ← hs1]
        have e : (w1.alloc (.cells #[.int .i64 s.ino, .int .i64 s.page] 177)).heap.size = w1.heap.size + 1 := by simp
        rw [← e]
        exact heap_alloc_new _ _
      have hrg2 : RangeIs w2 m w.heap.size L (left.filter fun x => !Slot.at s.ino s.page x) := HRG1.out.same (hb12.block m (by omega)) (hb12.block _ (by omega))
      have hO1 : OwnQ w1 w.heap.size A cap got := HO.out.kept (row := some w.heap.size) ⟨hm1.os, hm1.tape, hm1.output, hm1.size, fun b hb' hn => hm1.block b hb' (fun e => hn (by rw [e]))⟩ (by
        rcases HO.out.form with ⟨rfl, _⟩ | ⟨g, cur, rfl, _⟩
        · left; rfl
        · right
          intro e
          simp only [Option.map_some, Option.some.injEq] at e
          exact HN.out (by rw [e]))
      have hO2 : OwnQ w2 w.heap.size A cap got := hO1.below hb12 (Nat.le_refl _)
      have k0 : w2.cell? ⟨wr.heap.size, 0, none⟩ = some (.int .i64 s.ino) := one_block hk2 0
      have k1 : w2.cell? ⟨wr.heap.size, 1, none⟩ = some (.int .i64 s.page) := one_block hk2 1
      have h0 : w2.cell? ⟨wr.heap.size + 1, 0, none⟩ = some (.int .i64 (s.frame : Int)) := one_block hh2 0
      have hgl : got.length < 100000 := by
        have := HP.out.length_eq
        rw [List.length_append] at this
        have := HF.out
        omega
      have HO2 := Lib.hid hO2
      have HRG2 := Lib.hid hrg2
      have HB2 := Lib.hid hB2
      have HS2 := Lib.hid hs2
      clear hw2 hk2 hh2 hrg2 hO1 hO2 hB2 hs2
      have hOw := fun o => (HO2.out.below ((Below.refl w2.heap.size w2).alloc (Nat.le_refl _) o) (Nat.le_refl _))
      have HOW := Lib.hid hOw
      clear hOw
      go_wp2_with (first
        | (at_builtin; refine app_slot rfl (.tmp 18) (.tmp 26) rfl w.heap.size A cap got rfl (HOW.out _) s w2.heap.size 1 rfl (heap_alloc_new w2 _) (by omega) (by simp; have := HS2.out; omega) ?_; intro g' cap' w4 ho4 hg4 hat4 hlt4)
        | fail)
      have hz4 : w2.heap.size + 1 ≤ w4.heap.size := by
        have := hg4.size
        simp at this
        omega
      have hA : ∀ b, A.map (·.block) = some b → w.heap.size ≤ b ∧ b ≠ w.heap.size := fun b e => by
        rcases HO.out.form with ⟨rfl, _⟩ | ⟨g, cur, rfl, h1, _⟩
        · cases e
        · simp only [Option.map_some, Option.some.injEq] at e
          subst e
          exact ⟨h1, fun e => HN.out (by rw [e])⟩
      have hs2 := HS2.out
      have hB4 : Below w.heap.size w w4 := by
        refine ⟨hg4.os.trans HB2.out.os, hg4.tape.trans HB2.out.tape, hg4.output.trans HB2.out.output, by have := HB2.out.size; omega, fun b hb' => ?_⟩
        refine (hg4.block b (by simp; omega) fun e => ?_).trans ((Below.heap_alloc _ _ _ (by omega)).trans (HB2.out.block b hb'))
        have := (hA b e.symm).1
        omega
      have hrg4 : RangeIs w4 m w.heap.size L (left.filter fun x => !Slot.at s.ino s.page x) := by
        refine HRG2.out.same ?_ ?_
        · exact (hg4.block m (by simp; omega) fun e => by have := (hA m e.symm).1; omega).trans (Below.heap_alloc _ _ _ (by omega))
        · exact (hg4.block _ (by simp; omega) fun e => (hA _ e.symm).2 rfl).trans (Below.heap_alloc _ _ _ (by omega))
      have hg' : g' ≠ w.heap.size := by
        rcases hat4 with e | e
        · exact (hA _ e).2
        · simp at e; omega
      have hl4 : w.heap.size < w4.heap.size := by omega
      have HRG4 := Lib.hid hrg4
      have HO4 := Lib.hid ho4
      have HB4 := Lib.hid hB4
      clear hrg4 ho4 hB4 hz4 hs2 hg4 hat4
      go_wp2_with fail
      go_roundw
      case rel => exact ⟨some ⟨g', 0, none⟩, cap', got ++ [s], _, by rw [List.length_append]; rfl, HO4.out, HRG4.out, HSO.out.drop _, by
        rw [List.append_assoc]
        exact (List.Perm.append_left got (left_perm HSO.out hs).symm).trans HP.out, HB4.out, by omega, fun e => hg' (by injection e with e; injection e)⟩
      case measure => rw [HRG4.out.leftN, HRGL.out]; exact hleft

end Go.Proofs.YtkkmcnngpahfaaaGreatDoor

namespace Go.Proofs.YtkkmcnngpahfaaaGreatDoor
set_option linter.unusedSimpArgs false
set_option linter.unusedVariables false

def loose (p : Pool) (L : List Slot) : Nat := L.countP fun s => p.cnt s.frame == 1
theorem countP_drop {L : List Slot} (h : Sole L) {s : Slot} (hs : s ∈ L) (q : Slot → Bool) (hq : q s = true) : (L.filter fun x => !Slot.at s.ino s.page x).countP q + 1 = L.countP q := by
  induction L with
  | nil => cases hs
  | cons x l ih =>
    have hp := List.pairwise_cons.1 h
    rcases List.mem_cons.1 hs with rfl | h1
    · rw [List.filter_cons_of_neg (by simp [Slot.at]), List.countP_cons]
      have e : (l.filter fun x => !Slot.at s.ino s.page x) = l := List.filter_eq_self.2 fun y hy => by
        cases hc : Slot.at s.ino s.page y with
        | false => rfl
        | true =>
          obtain ⟨a1, a2⟩ := Slot.at_iff.1 hc
          exact absurd ⟨a1.symm, a2.symm⟩ (hp.1 y hy)
      rw [e, if_pos hq]
    · have hx : (!Slot.at s.ino s.page x) = true := by
        cases hc : Slot.at s.ino s.page x with
        | false => rfl
        | true =>
          obtain ⟨a1, a2⟩ := Slot.at_iff.1 hc
          exact absurd ⟨a1, a2⟩ (hp.1 s h1)
      rw [List.filter_cons_of_pos (p := fun x => !Slot.at s.ino s.page x) hx, List.countP_cons, List.countP_cons, ← ih hp.2 h1]
      omega
theorem room_step {p p' : Pool} {L L' : List Slot} {hold : Nat → Nat} {f : Nat} (h : Even p L hold) (hS : Sole L) (hlt : ∀ s ∈ L, s.frame < p.n) (ht : TakeRes p L 0 f p' L') : p'.left + loose p' L' + 1 = p.left + loose p L := by
  cases ht with
  | free _ hl =>
    obtain ⟨h1, h2, h3⟩ := lowest_some hl
    have hu := freeTo_upd (c := p.cnt) (n := p.n) (f := f) (x := 1) h1
    rw [if_pos h2, if_neg (by omega)] at hu
    have e1 : (p.takeAt f).left + 1 = p.left := by
      show freeTo (upd p.cnt f 1) p.n + 1 = freeTo p.cnt p.n
      omega
    have e2 : loose (p.takeAt f) L = loose p L := by
      unfold loose
      refine List.countP_congr fun s hs => ?_
      have hne : s.frame ≠ f := fun e => by
        have := h s.frame (hlt s hs)
        have := slotN_pos hs
        rw [e] at *
        omega
      show ((upd p.cnt f 1 s.frame == 1) = true) ↔ _
      rw [upd_ne _ _ hne]
    omega
  | loose s hl hs hsn h1 hmin =>
    have e0 : p.left = 0 := freeTo_zero.2 (lowest_none hl)
    have ec : ((p.down s.frame).takeAt s.frame).cnt = p.cnt := by
      funext x
      show upd (upd p.cnt s.frame _) s.frame 1 x = _
      by_cases e : x = s.frame
      · subst e; rw [upd_same, h1]
      · rw [upd_ne _ _ e, upd_ne _ _ e]
    have e1 : ((p.down s.frame).takeAt s.frame).left = p.left := by
      show freeTo ((p.down s.frame).takeAt s.frame).cnt p.n = freeTo p.cnt p.n
      rw [ec]
    have e2 : loose ((p.down s.frame).takeAt s.frame) (L.filter fun x => !Slot.at s.ino s.page x) + 1 = loose p L := by
      unfold loose
      rw [ec]
      exact countP_drop hS hs _ (by simp [h1])
    omega
theorem room_none {p : Pool} {L : List Slot} (hlt : ∀ s ∈ L, s.frame < p.n) (ht : TakeRes p L 4 0 p L) : p.left + loose p L = 0 := by
  have e0 := ht.full
  have e1 : loose p L = 0 := by
    unfold loose
    rw [List.countP_eq_zero]
    intro s hs
    cases ht with
    | none hl hn =>
      have := hn s hs
      rw [countB_nat (hlt s hs)] at this
      simp
      exact this
  omega
/-- As many as there is room for, and not one more. -/
theorem room_duo {p p' : Pool} {L L' : List Slot} {hold : Nat → Nat} {r : Int} {f : Nat} (h : Even p L hold) (hS : Sole L) (hlt : ∀ s ∈ L, s.frame < p.n) (ht : TakeRes p L r f p' L') :
    (r = 0 ∧ p'.left + loose p' L' + 1 = p.left + loose p L ∧ f < p'.n ∧ p'.cnt f = 1 ∧ p'.n = p.n ∧ Sole L' ∧ (∀ s ∈ L', s.frame < p'.n) ∧ ∃ hold', Even p' L' hold') ∨ (r = 4 ∧ p.left + loose p L = 0 ∧ p' = p ∧ L' = L) := by
  rcases ht.duo with e | ⟨e, rfl, rfl, rfl⟩
  · subst e
    have hT := h.take hS ht
    exact .inl ⟨rfl, room_step h hS hlt ht, by rw [hT.n]; exact hT.lt, hT.one, hT.n, hT.sole, fun s hs => by rw [hT.n]; exact hlt s (hT.sub.subset hs), _, hT.even⟩
  · subst e
    exact .inr ⟨rfl, room_none hlt ht, rfl, rfl⟩

/-- Get of a page that has a slot. -/
theorem get_again {F : List Nd} {ino page : Int} {p p' : Pool} {L L' : List Slot} {clock clock' r : Int} {f : Nat} (hg : GetF F ino page p L clock r f p' L' clock') (hS : Sole L) {s : Slot} (hs : s ∈ L) (hi : s.ino = ino) (hp : s.page = page) (h0 : 0 ≤ page) (h1 : page < 16) (hr : (pageR F ino page).1 = 0) :
    r = 0 ∧ f = s.frame ∧ p' = p := by
  have hf := find_of_sole hS hs
  rw [hi, hp] at hf
  cases hg with
  | bad h => omega
  | err _ _ h => exact absurd hr h
  | hit s' _ _ _ h =>
    rw [hf] at h
    injection h with h
    exact ⟨rfl, by rw [h], rfl⟩
  | full _ _ _ h => rw [hf] at h; cases h
  | miss _ _ _ _ _ _ h => rw [hf] at h; cases h
theorem readR_err {F : List Nd} {ino : Int} {off : Nat} : (readR F ino off).1 ≠ 4 := by
  unfold readR
  repeat' split
  all_goals (show (_ : Int) ≠ 4; omega)
/-- Where Get is refused for want of frames none is free. -/
theorem get_refused {F : List Nd} {ino page : Int} {p p' : Pool} {L L' : List Slot} {clock clock' r : Int} {f : Nat} (hg : GetF F ino page p L clock r f p' L' clock') (hr : r = 4) : p'.left = 0 := by
  cases hg with
  | bad => cases hr
  | err _ _ _ => exact absurd hr readR_err
  | hit => cases hr
  | full _ _ _ _ ht => exact ht.full
  | miss => cases hr
theorem slotN_take_succ {l : List Slot} {k : Nat} {x : Slot} {f : Nat} (h : l[k]? = some x) : slotN (l.take (k + 1)) f = slotN (l.take k) f + if x.frame = f then 1 else 0 := by
  unfold slotN
  have e : l.take (k + 1) = l.take k ++ [x] := by
    rw [List.take_add_one, h]
    rfl
  rw [e, List.countP_append, List.countP_singleton]
  simp
theorem slotN_perm {l l' : List Slot} (h : l.Perm l') (f : Nat) : slotN l f = slotN l' f := h.countP_eq _
theorem loose_perm {l l' : List Slot} (h : l.Perm l') (p : Pool) : loose p l = loose p l' := h.countP_eq _
theorem loose_take_succ {l : List Slot} {k : Nat} {x : Slot} {p : Pool} (h : l[k]? = some x) : loose p (l.take (k + 1)) = loose p (l.take k) + if p.cnt x.frame = 1 then 1 else 0 := by
  unfold loose
  have e : l.take (k + 1) = l.take k ++ [x] := by
    rw [List.take_add_one, h]
    rfl
  rw [e, List.countP_append, List.countP_singleton]
  simp
theorem Rising.next {l : List Slot} (h : Rising l) {k : Nat} {x y : Slot} (hx : l[k]? = some x) (hy : l[k + 1]? = some y) : x.ino < y.ino ∨ x.ino = y.ino ∧ x.page < y.page := by
  obtain ⟨h1, e1⟩ := List.getElem?_eq_some_iff.1 hx
  obtain ⟨h2, e2⟩ := List.getElem?_eq_some_iff.1 hy
  have := List.pairwise_iff_getElem.1 h k (k + 1) h1 h2 (by omega)
  rw [e1, e2] at this
  exact this
theorem small_small {z : Int} (h0 : 0 ≤ z) (h1 : z < 1000000) : small z = z := by
  unfold small
  omega
theorem St8.Fine.small {s : St8} {F : List Nd} {ext : Nat → Nat} {n k : Nat} (h : s.Fine F ext n k) (hF : F.length ≤ 1000) : Small s.L := fun x hx => by
  obtain ⟨h1, h2, h3, h4⟩ := h.keys x hx
  exact ⟨small_small h1 (by omega), small_small h3 (by omega)⟩

end Go.Proofs.YtkkmcnngpahfaaaGreatDoor
