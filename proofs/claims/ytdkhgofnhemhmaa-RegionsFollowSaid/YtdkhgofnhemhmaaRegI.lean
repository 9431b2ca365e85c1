/- Regions: joined, few, sorted, without of the references. -/
import Derived.Test.YtdkhgofnhemhmaaRegH
namespace Go.Proofs.Ytdkhgofnhemhmaa
open Go.RowKit Go.Sort
set_option linter.unusedSimpArgs false
set_option linter.unusedVariables false

set_option maxHeartbeats 2000000 in
theorem rjoined_any (A : Option Addr) (n cap : Nat) (w : World) (l : List Reg) (hl : RSl w w.heap.size A n cap l) (hf : n ≤ 1000) :
    Calls Try.prog 42 #[.slice A n cap] w
      fun e w' => ∃ A' cap', e = .returned (.slice A' (Rg.joined l).length cap') ∧ OwnR w' w.heap.size A' cap' (Rg.joined l) ∧ Below w.heap.size w w' := by
  have hln := Lib.hid hl.len
  go_enter Try.func42, Try.ntmps42
  go_wp2
  go_loopw [3, 4] (fun v i wr => ∃ k : Nat, k ≤ n ∧ i = .int .i64 k ∧ Below w.heap.size w wr ∧ ∃ A cap, v = .slice A (Rg.joined (l.take k)).length cap ∧ OwnR wr w.heap.size A cap (Rg.joined (l.take k))) (fun _ i _ => n - (intOf i).toNat)
  case atStart => exact ⟨0, Nat.zero_le _, rfl, Below.refl _ _, none, 0, rfl, OwnR.nil _ _⟩
  case round =>
    obtain ⟨k, hk, rfl, hB, A1, c1, rfl, ho⟩ := hrel
    have hBs := hB.size
    have hjl := joined_len (l.take k)
    have hlk : (l.take k).length ≤ 1000 := by rw [List.length_take]; omega
    by_cases hlt : k < n
    · obtain ⟨r, hr⟩ : ∃ r, l[k]? = some r := ⟨_, List.getElem?_eq_getElem (by have := hln.out; omega)⟩
      obtain ⟨b, off, rfl, hb, hra⟩ := hl.at_ k r hr
      have hra := hra.below hB hb
      have HR := Lib.hid hr
      have b0 := fun d os => (hra.re d os).c0
      have b1 := fun d os => (hra.re d os).c1
      have b2 := fun d os => (hra.re d os).c2
      have b3 := fun d os => (hra.re d os).c3
      have b4 := fun d os => (hra.re d os).c4
      have hkn : (k : Int) < (n : Int) := by omega
      have hk0 : (0 : Int) ≤ (k : Int) := by omega
      have HT := Lib.hid (joined_take hr)
      generalize hacc : Rg.joined (l.take k) = acc at *
      have hfew : acc.length < 1000000 := by omega
      generalize hm : acc.length = m at *
      have HM := Lib.hid hm
      have HO := Lib.hid ho
      clear hr ho hacc hm
      rcases Nat.eq_zero_or_pos m with rfl | hm0
      · have hnil : acc = [] := List.eq_nil_of_length_eq_zero HM.out
        have HN := Lib.hid hnil
        clear hnil
        go_wp2
        refine wp_region_quiet_below (by kernel_rfl) (by kernel_rfl) ?_; (repeat (go_big_quiet_step (fail))); refine wpQuiet_nil ?_; intro _ hw'; obtain ⟨⟨dq, osq⟩, hw''⟩ := hw'; subst hw''; have hbq := below_regrown (wr) dq osq; generalize grow (redrawn (wr) dq) osq = wq at hbq ⊢
        have hqs := hbq.size
        obtain ⟨q0, q1, q2, q3, q4⟩ := hra.below hbq (by omega)
        clear b0 b1 b2 b3 b4
        go_wp2_with (at_builtin; refine app_reg rfl (.tmp 38) (.tmp 43) rfl (w.heap.size) A1 c1 acc (by rw [HM.out]; rfl) (((HO.out).below hbq (Nat.le_refl _)).alloc _) r (wq.heap.size) 1 rfl (heap_alloc_new wq _) (by rw [HM.out]; omega) (by simp; omega) ?_; rw [HM.out]; intro g' cap' w2 ho2 hg2 hat2 hlt2; have hB2 := below_app (w := w) (by ((repeat' (with_reducible (first | assumption | (refine Below.alloc ?_ ?_ _) | (refine Below.setCell ?_ ?_ _) | (refine Below.drew ?_) | (refine below_drewN ?_ _) | exact Below.refl _ _ | (refine Below.trans ?_ (Below.mono (by assumption) ?_))))) <;> (try simp) <;> (try omega))) (((HO.out).below hbq (Nat.le_refl _)).alloc _) hg2 (by simp; omega))
        have hfin : Rg.joined (l.take (k + 1)) = acc ++ [r] := by rw [HT.out, HN.out]; rfl
        go_roundw
        case rel => exact ⟨k + 1, by omega, by go_num, hB2, some ⟨g', 0, none⟩, cap', by rw [hfin]; simp [HN.out], by rw [hfin]; exact ho2⟩
        case measure => simp [intOf]; omega
      · obtain ⟨j, rfl⟩ : ∃ j, m = j + 1 := ⟨m - 1, by omega⟩
        obtain ⟨g, rfl, hg1, hg2, hgc⟩ := (HO.out.form).resolve_left (by rintro ⟨_, h, _⟩; have := HM.out; rw [h] at this; simp at this)
        rw [HM.out] at hgc
        obtain ⟨p, hp⟩ : ∃ p, acc[j]? = some p := ⟨_, List.getElem?_eq_getElem (by have := HM.out; omega)⟩
        have hpa := HO.out.elem hp
        have p0 := fun d os => (hpa.re d os).c0
        have p1 := fun d os => (hpa.re d os).c1
        have p2 := fun d os => (hpa.re d os).c2
        have p3 := fun d os => (hpa.re d os).c3
        have p4 := fun d os => (hpa.re d os).c4
        have HP := Lib.hid hp
        clear hp hpa
        have cJ := fun d os => rjoins_q (W := wr) p r d os
        cases hj : Rg.joins p r with
        | true =>
          rw [hj] at cJ
          have CJ := Lib.hid cJ
          have hfin := Lib.hid (HT.out.trans (push_yes HM.out HP.out hj))
          clear cJ hj
          go_wp2
          refine wp_region_quiet_below (by kernel_rfl) (by kernel_rfl) ?_; (repeat (go_big_quiet_step (exact CJ.out _ _))); refine wpQuiet_nil ?_; intro _ hw'; obtain ⟨⟨dq, osq⟩, hw''⟩ := hw'; subst hw''; have hbq := below_regrown (wr) dq osq; generalize grow (redrawn (wr) dq) osq = wq at hbq ⊢
          have hqs := hbq.size
          have q1 := (hra.below hbq (by omega)).c1
          have hoq := (HO.out).below hbq (Nat.le_refl _)
          have qa := (hoq.elem HP.out).c1
          have qf := World.ownsRow.frozenAt hoq (j * 5 + 1)
          have hset := Lib.hid (hoq.setTo HP.out r.to)
          clear b0 b1 b2 b3 b4 p0 p1 p2 p3 p4 hoq hra
          go_wp2
          have hl2 : (acc.set j ⟨p.fr, r.to, p.prot, p.ino, p.off⟩).length = j + 1 := by rw [List.length_set, HM.out]
          have hset2 := hset.out
          go_roundw
          case rel => exact ⟨k + 1, by omega, by go_num, by ((repeat' (with_reducible (first | assumption | (refine Below.alloc ?_ ?_ _) | (refine Below.setCell ?_ ?_ _) | (refine Below.drew ?_) | (refine below_drewN ?_ _) | exact Below.refl _ _ | (refine Below.trans ?_ (Below.mono (by assumption) ?_))))) <;> (try simp) <;> (try omega)), some ⟨g, 0, none⟩, c1, by rw [hfin.out, hl2], by rw [hfin.out]; exact hset2⟩
          case measure => simp [intOf]; omega
        | false =>
          rw [hj] at cJ
          have CJ := Lib.hid cJ
          have hfin := Lib.hid (HT.out.trans (push_no HM.out HP.out hj))
          clear cJ hj
          go_wp2
          refine wp_region_quiet_below (by kernel_rfl) (by kernel_rfl) ?_; (repeat (go_big_quiet_step (exact CJ.out _ _))); refine wpQuiet_nil ?_; intro _ hw'; obtain ⟨⟨dq, osq⟩, hw''⟩ := hw'; subst hw''; have hbq := below_regrown (wr) dq osq; generalize grow (redrawn (wr) dq) osq = wq at hbq ⊢
          have hqs := hbq.size
          obtain ⟨q0, q1, q2, q3, q4⟩ := hra.below hbq (by omega)
          clear b0 b1 b2 b3 b4 p0 p1 p2 p3 p4
          go_wp2_with (at_builtin; refine app_reg rfl (.tmp 38) (.tmp 43) rfl (w.heap.size) (some ⟨g, 0, none⟩) c1 acc (by rw [HM.out]; rfl) (((HO.out).below hbq (Nat.le_refl _)).alloc _) r (wq.heap.size) 1 rfl (heap_alloc_new wq _) (by rw [HM.out]; omega) (by simp; omega) ?_; rw [HM.out]; intro g' cap' w2 ho2 hg2 hat2 hlt2; have hB2 := below_app (w := w) (by ((repeat' (with_reducible (first | assumption | (refine Below.alloc ?_ ?_ _) | (refine Below.setCell ?_ ?_ _) | (refine Below.drew ?_) | (refine below_drewN ?_ _) | exact Below.refl _ _ | (refine Below.trans ?_ (Below.mono (by assumption) ?_))))) <;> (try simp) <;> (try omega))) (((HO.out).below hbq (Nat.le_refl _)).alloc _) hg2 (by simp; omega))
          have hl2 : (acc ++ [r]).length = j + 1 + 1 := by rw [List.length_append, HM.out]; rfl
          go_roundw
          case rel => exact ⟨k + 1, by omega, by go_num, hB2, some ⟨g', 0, none⟩, cap', by rw [hfin.out, hl2], by rw [hfin.out]; exact ho2⟩
          case measure => simp [intOf]; omega
    · have ht : l.take k = l := List.take_of_length_le (by have := hln.out; omega)
      rw [ht] at ho
      rw [ht]
      have HO := Lib.hid ho
      clear ho hjl
      generalize hacc : Rg.joined l = acc at *
      have HA := Lib.hid hacc
      clear hacc
      go_wp2
      go_ret
      refine ⟨A1, c1, ?_, ?_, hB⟩
      · rw [HA.out]; rfl
      · rw [HA.out]; exact HO.out

theorem few_any (A : Option Addr) (cap : Nat) (w : World) (base : Nat) (l : List Reg) (hl : OwnR w base A cap l) (hf : l.length ≤ 1000000) :
    Calls Try.prog 41 #[.slice A l.length cap] w
      fun e w' => ∃ A' cap', e = .returned (.tuple #[.slice A' (Rg.few l).1.length cap', .int .i64 (Rg.few l).2]) ∧ OwnR w' base A' cap' (Rg.few l).1 ∧ w' = w := by
  by_cases h64 : 64 < l.length
  · have hfw : Rg.few l = ([], 15) := by simp [Rg.few, h64]
    have HF := Lib.hid hfw
    clear hfw
    go_enter Try.func41, Try.ntmps41
    go_wp2
    go_ret2
    refine ⟨none, 0, ?_, ?_, rfl⟩
    · rw [HF.out]; rfl
    · rw [HF.out]; exact OwnR.nil _ _
  · have hfw : Rg.few l = (l, 0) := by simp [Rg.few, h64]
    have HF := Lib.hid hfw
    clear hfw
    go_enter Try.func41, Try.ntmps41
    go_wp2
    go_ret2
    refine ⟨A, cap, ?_, ?_, rfl⟩
    · rw [HF.out]; rfl
    · rw [HF.out]; exact hl

/-- with one more in its place -/
def Rg.ins : List Reg → Reg → List Reg
  | [], r => [r]
  | x :: l, r => if r.fr < x.fr then r :: x :: l else x :: Rg.ins l r

/-- The same, told as the loop goes: what is there behind k, and whether it is laid. -/
def InsTo (l : List Reg) (r : Reg) (k : Nat) (acc : List Reg) (laid : Bool) : Prop :=
  (laid = true → acc ++ l.drop k = Rg.ins l r) ∧ (laid = false → acc ++ Rg.ins (l.drop k) r = Rg.ins l r) ∧ acc.length ≤ k + 1

theorem drop_get {l : List Reg} {k : Nat} {x : Reg} (h : l[k]? = some x) : l.drop k = x :: l.drop (k + 1) := by
  obtain ⟨hk, e⟩ := List.getElem?_eq_some_iff.1 h
  rw [List.drop_eq_getElem_cons hk, e]
theorem InsTo.zero (l : List Reg) (r : Reg) : InsTo l r 0 [] false := ⟨by simp, by simp, by simp⟩
theorem InsTo.laid {l : List Reg} {r x : Reg} {k : Nat} {acc : List Reg} (h : InsTo l r k acc true) (hx : l[k]? = some x) : InsTo l r (k + 1) (acc ++ [x]) true := by
  refine ⟨fun _ => ?_, fun h => by simp at h, by have := h.2.2; simp; omega⟩
  rw [← h.1 rfl, drop_get hx]
  simp
theorem InsTo.here {l : List Reg} {r x : Reg} {k : Nat} {acc : List Reg} (h : InsTo l r k acc false) (hx : l[k]? = some x) (hlt : r.fr < x.fr) (ha : acc.length ≤ k) : InsTo l r (k + 1) (acc ++ [r] ++ [x]) true := by
  refine ⟨fun _ => ?_, fun h => by simp at h, by simp; omega⟩
  rw [← h.2.1 rfl, drop_get hx]
  simp [Rg.ins, hlt]
theorem InsTo.on {l : List Reg} {r x : Reg} {k : Nat} {acc : List Reg} (h : InsTo l r k acc false) (hx : l[k]? = some x) (hlt : ¬ r.fr < x.fr) : InsTo l r (k + 1) (acc ++ [x]) false := by
  refine ⟨fun h => by simp at h, fun _ => ?_, by have := h.2.2; simp; omega⟩
  rw [← h.2.1 rfl, drop_get hx]
  simp [Rg.ins, hlt]
theorem InsTo.end1 {l : List Reg} {r : Reg} {k : Nat} {acc : List Reg} (h : InsTo l r k acc true) (hk : l.length ≤ k) : acc = Rg.ins l r := by
  have := h.1 rfl
  rw [List.drop_of_length_le hk] at this
  simpa using this
theorem InsTo.end0 {l : List Reg} {r : Reg} {k : Nat} {acc : List Reg} (h : InsTo l r k acc false) (hk : l.length ≤ k) : acc ++ [r] = Rg.ins l r := by
  have := h.2.1 rfl
  rw [List.drop_of_length_le hk] at this
  simpa [Rg.ins] using this
theorem ins_len (l : List Reg) (r : Reg) : (Rg.ins l r).length = l.length + 1 := by
  induction l with
  | nil => rfl
  | cons x l ih => simp only [Rg.ins]; split <;> simp [ih]

set_option maxHeartbeats 2000000 in
theorem sorted_any (r : Reg) (A : Option Addr) (n cap : Nat) (w : World) (l : List Reg) (hl : RSl w w.heap.size A n cap l) (hf : n ≤ 1000) :
    Calls Try.prog 43 #[.slice A n cap, .agg #[.int .u64 (r).fr, .int .u64 (r).to, .int .u8 (r).prot, .int .i64 (r).ino, .int .u64 (r).off]] w
      fun e w' => ∃ A' cap', e = .returned (.slice A' (Rg.ins l r).length cap') ∧ OwnR w' w.heap.size A' cap' (Rg.ins l r) ∧ Below w.heap.size w w' := by
  have hln := Lib.hid hl.len
  go_enter Try.func43, Try.ntmps43
  go_wp2
  generalize hW0 : w.alloc (.cells #[.int .u64 r.fr, .int .u64 r.to, .int .u8 r.prot, .int .i64 r.ino, .int .u64 r.off] 25) = W0
  have hbx : W0.heap[w.heap.size]? = some (.cells #[.int .u64 r.fr, .int .u64 r.to, .int .u8 r.prot, .int .i64 r.ino, .int .u64 r.off] 25 (0, 0)) := by
    subst hW0; exact heap_alloc_new w _
  have hb0 : Below w.heap.size w W0 := by
    subst hW0
    ((repeat' (with_reducible (first | assumption | (refine Below.alloc ?_ ?_ _) | (refine Below.setCell ?_ ?_ _) | (refine Below.drew ?_) | (refine below_drewN ?_ _) | exact Below.refl _ _ | (refine Below.trans ?_ (Below.mono (by assumption) ?_))))) <;> (try simp) <;> (try omega))
  have hs0 : W0.heap.size = w.heap.size + 1 := by subst hW0; simp
  have HS0 := Lib.hid hs0
  clear hW0 hs0
  go_loopw [5, 6, 7] (fun v q i wr => ∃ k : Nat, k ≤ n ∧ i = .int .i64 k ∧ Below (w.heap.size + 1) W0 wr ∧ ∃ A cap acc laid, v = .slice A (List.length acc) cap ∧ q = .bool laid ∧ OwnR wr (w.heap.size + 1) A cap acc ∧ InsTo l r k acc laid ∧ (laid = false → acc.length ≤ k)) (fun _ _ i _ => n - (intOf i).toNat)
  case atStart => exact ⟨0, Nat.zero_le _, rfl, Below.refl _ _, none, 0, [], false, rfl, rfl, OwnR.nil _ _, InsTo.zero l r, fun _ => Nat.le_refl _⟩
  case round =>
    obtain ⟨k, hk, rfl, hB1, A1, c1, acc, laid, rfl, rfl, ho, hins, hal⟩ := hrel
    have hBs := hB1.size
    have hB := hb0.trans (hB1.mono (by omega))
    have hz0 : w.heap.size < wr.heap.size := by have := HS0.out; omega
    have hbr := (hB1.block _ (by omega)).trans hbx
    have d0 : wr.cell? ⟨w.heap.size, 0, none⟩ = some (.int .u64 r.fr) := one_block hbr 0
    have d1 : wr.cell? ⟨w.heap.size, 1, none⟩ = some (.int .u64 r.to) := one_block hbr 1
    have d2 : wr.cell? ⟨w.heap.size, 2, none⟩ = some (.int .u8 r.prot) := one_block hbr 2
    have d3 : wr.cell? ⟨w.heap.size, 3, none⟩ = some (.int .i64 r.ino) := one_block hbr 3
    have d4 : wr.cell? ⟨w.heap.size, 4, none⟩ = some (.int .u64 r.off) := one_block hbr 4
    have hal2 := hins.2.2
    have hfew : acc.length < 10000 := by omega
    generalize hm : acc.length = m at *
    have HM := Lib.hid hm
    have HO := Lib.hid ho
    have HR := Lib.hid hbr
    have HI := Lib.hid hins
    have HA := Lib.hid hal
    clear hm ho hbr hins hal
    by_cases hlt : k < n
    · obtain ⟨x, hx⟩ : ∃ x, l[k]? = some x := ⟨_, List.getElem?_eq_getElem (by have := hln.out; omega)⟩
      obtain ⟨b, off, rfl, hb, hra⟩ := hl.at_ k x hx
      have HW := Lib.hid hra
      have hra := hra.below hB hb
      obtain ⟨h0, h1, h2, h3, h4⟩ := hra
      have hkn : (k : Int) < (n : Int) := by omega
      have hk0 : (0 : Int) ≤ (k : Int) := by omega
      have HX := Lib.hid hx
      clear hx hl
      cases laid with
      | true =>
        have hfin := Lib.hid (HI.out.laid HX.out)
        go_wp2
        go_quiet (fail)
        go_wp2_with (at_builtin; refine app_reg rfl (.tmp 30) (.tmp 35) rfl ((w.heap.size + 1)) A1 c1 acc (by rw [HM.out]; rfl) ((show OwnR (wr.drewN nq) (w.heap.size + 1) A1 c1 acc from HO.out).alloc _) x (wr.heap.size) 1 rfl (heap_alloc_new _ _) (by rw [HM.out]; omega) (by simp; omega) ?_; rw [HM.out]; intro g' cap' w2 ho2 hg2 hat2 hlt2; have hB2 := below_app (w := W0) (by ((repeat' (with_reducible (first | assumption | (refine Below.alloc ?_ ?_ _) | (refine Below.setCell ?_ ?_ _) | (refine Below.drew ?_) | (refine below_drewN ?_ _) | exact Below.refl _ _ | (refine Below.trans ?_ (Below.mono (by assumption) ?_))))) <;> (try simp) <;> (try omega))) ((show OwnR (wr.drewN nq) (w.heap.size + 1) A1 c1 acc from HO.out).alloc _) hg2 (by simp; omega))
        have hl2 : (acc ++ [x]).length = m + 1 := by rw [List.length_append, HM.out]; rfl
        go_roundw
        case rel => exact ⟨k + 1, by omega, by go_num, hB2, some ⟨g', 0, none⟩, cap', acc ++ [x], true, by rw [hl2], rfl, ho2, hfin.out, fun h => by cases h⟩
        case measure => simp [intOf]; omega
      | false =>
        by_cases hrx : r.fr < x.fr
        · have hdb : decide (r.fr < x.fr) = true := by simpa using hrx
          have hfin := Lib.hid (HI.out.here HX.out hrx (by rw [HM.out]; exact HA.out rfl))
          go_wp2
          go_quiet (fail)
          go_wp2_with (first
            | (at_builtin; refine app_reg rfl (.tmp 26) (.tmp 28) rfl ((w.heap.size + 1)) A1 c1 acc (by rw [HM.out]; rfl) ((show OwnR (wr.drewN nq) (w.heap.size + 1) A1 c1 acc from HO.out).alloc _) r (wr.heap.size) 1 rfl (heap_alloc_new _ _) (by rw [HM.out]; omega) (by simp; omega) ?_; rw [HM.out]; intro g' cap' w2 ho2 hg2 hat2 hlt2; (have hB2 := below_app (w := W0) (by ((repeat' (with_reducible (first | assumption | (refine Below.alloc ?_ ?_ _) | (refine Below.setCell ?_ ?_ _) | (refine Below.drew ?_) | (refine below_drewN ?_ _) | exact Below.refl _ _ | (refine Below.trans ?_ (Below.mono (by assumption) ?_))))) <;> (try simp) <;> (try omega))) ((show OwnR (wr.drewN nq) (w.heap.size + 1) A1 c1 acc from HO.out).alloc _) hg2 (by simp; omega); have hs2 : w.heap.size + 1 ≤ w2.heap.size := (by have := HS0.out; have := hB2.size; omega); have hlr : (acc ++ [r]).length = m + 1 := (by rw [List.length_append, HM.out]; rfl); have HM2 := Lib.hid hlr; clear hlr; obtain ⟨i0, i1, i2, i3, i4⟩ := HW.out.below (hb0.trans (hB2.mono (by omega))) hb; have hfr2 : r.fr < x.fr := hrx))
            | (at_builtin; refine app_reg rfl (.tmp 30) (.tmp 35) rfl (w.heap.size + 1) (some ⟨g', 0, none⟩) cap' (acc ++ [r]) (by rw [HM2.out]; rfl) (ho2.alloc _) x w2.heap.size 1 rfl (heap_alloc_new _ _) (by rw [HM2.out]; omega) (by simp; omega) ?_; rw [HM2.out]; intro g3 cap3 w3 ho3 hg3 hat3 hlt3; have hB3 := below_app (w := W0) (by ((repeat' (with_reducible (first | assumption | (refine Below.alloc ?_ ?_ _) | (refine Below.setCell ?_ ?_ _) | (refine Below.drew ?_) | (refine below_drewN ?_ _) | exact Below.refl _ _ | (refine Below.trans ?_ (Below.mono (by assumption) ?_))))) <;> (try simp) <;> (try omega))) (ho2.alloc _) hg3 (by simp; omega)))
          have hl2 : (acc ++ [r] ++ [x]).length = m + 1 + 1 := by rw [List.length_append, HM2.out]; rfl
          go_roundw
          case rel => exact ⟨k + 1, by omega, by go_num, hB3, some ⟨g3, 0, none⟩, cap3, acc ++ [r] ++ [x], true, by rw [hl2], rfl, ho3, hfin.out, fun h => by cases h⟩
          case measure => simp [intOf]; omega
        · have hdb : decide (r.fr < x.fr) = false := by simpa using hrx
          have hfin := Lib.hid (HI.out.on HX.out hrx)
          have hal3 := HA.out rfl
          go_wp2
          go_quiet (fail)
          go_wp2_with (at_builtin; refine app_reg rfl (.tmp 30) (.tmp 35) rfl ((w.heap.size + 1)) A1 c1 acc (by rw [HM.out]; rfl) ((show OwnR (wr.drewN nq) (w.heap.size + 1) A1 c1 acc from HO.out).alloc _) x (wr.heap.size) 1 rfl (heap_alloc_new _ _) (by rw [HM.out]; omega) (by simp; omega) ?_; rw [HM.out]; intro g' cap' w2 ho2 hg2 hat2 hlt2; have hB2 := below_app (w := W0) (by ((repeat' (with_reducible (first | assumption | (refine Below.alloc ?_ ?_ _) | (refine Below.setCell ?_ ?_ _) | (refine Below.drew ?_) | (refine below_drewN ?_ _) | exact Below.refl _ _ | (refine Below.trans ?_ (Below.mono (by assumption) ?_))))) <;> (try simp) <;> (try omega))) ((show OwnR (wr.drewN nq) (w.heap.size + 1) A1 c1 acc from HO.out).alloc _) hg2 (by simp; omega))
          have hl2 : (acc ++ [x]).length = m + 1 := by rw [List.length_append, HM.out]; rfl
          go_roundw
          case rel => exact ⟨k + 1, by omega, by go_num, hB2, some ⟨g', 0, none⟩, cap', acc ++ [x], false, by rw [hl2], rfl, ho2, hfin.out, fun _ => by rw [hl2]; omega⟩
          case measure => simp [intOf]; omega
    · have hkl : l.length ≤ k := by have := hln.out; omega
      cases laid with
      | true =>
        have hfin := Lib.hid (HI.out.end1 hkl)
        go_wp2
        go_ret
        refine ⟨A1, c1, ?_, ?_, hB⟩
        · rw [← hfin.out, HM.out]; rfl
        · rw [← hfin.out]; exact HO.out.lower (by omega)
      | false =>
        have hfin := Lib.hid (HI.out.end0 hkl)
        go_wp2_with (at_builtin; refine app_reg rfl (.tmp 39) (.tmp 41) rfl ((w.heap.size + 1)) A1 c1 acc (by rw [HM.out]; rfl) (HO.out.alloc _) r (wr.heap.size) 1 rfl (heap_alloc_new _ _) (by rw [HM.out]; omega) (by simp; omega) ?_; rw [HM.out]; intro g' cap' w2 ho2 hg2 hat2 hlt2; have hB2 := below_app (w := W0) (by ((repeat' (with_reducible (first | assumption | (refine Below.alloc ?_ ?_ _) | (refine Below.setCell ?_ ?_ _) | (refine Below.drew ?_) | (refine below_drewN ?_ _) | exact Below.refl _ _ | (refine Below.trans ?_ (Below.mono (by assumption) ?_))))) <;> (try simp) <;> (try omega))) (HO.out.alloc _) hg2 (by simp; omega))
        have hl2 : (acc ++ [r]).length = m + 1 := by rw [List.length_append, HM.out]; rfl
        go_ret
        refine ⟨some ⟨g', 0, none⟩, cap', ?_, ?_, hb0.trans (hB2.mono (by omega))⟩
        · rw [← hfin.out, hl2]; rfl
        · rw [← hfin.out]; exact ho2.lower (by omega)

end Go.Proofs.Ytdkhgofnhemhmaa
