/- The document's cache: Slots; New. -/
import Derived.Test.YtkkmcnngpahfaaaGreatDoorDqD
namespace Go.Proofs.YtkkmcnngpahfaaaGreatDoor
open Go.RowKit Go.Sort
set_option linter.unusedSimpArgs false
set_option linter.unusedVariables false
variable {w : World} {B g : Nat} {y : DcW} {p : Pool} {D : List Slot}

def srt (D : List Slot) (k : Nat) : List Slot := (D.take k).foldl (fun l s => insS s l) []
theorem srt_succ {k : Nat} {s : Slot} (hs : D[k]? = some s) : srt D (k + 1) = insS s (srt D k) := by
  unfold srt
  rw [List.take_add_one, hs, Option.toList_some, List.foldl_append]
  rfl
theorem srt_len {k : Nat} (hk : k ≤ D.length) : (srt D k).length = k := by
  induction k with
  | zero => simp [srt]
  | succ k ih =>
    obtain ⟨s, hs⟩ : ∃ s, D[k]? = some s := ⟨_, List.getElem?_eq_getElem (by omega)⟩
    rw [srt_succ hs, (insS_perm s (srt D k)).length_eq, List.length_cons, ih (by omega)]
theorem while_at {l : List Slot} {s : Slot} {j : Nat} (hj : j ≤ l.length) (h1 : ∀ i t, i < j → l[i]? = some t → below2 t s = true) (h2 : ∀ t, l[j]? = some t → below2 t s = false) : insS s l = l.take j ++ s :: l.drop j := by
  induction l generalizing j with
  | nil =>
    obtain rfl : j = 0 := by simpa using hj
    rfl
  | cons x l ih =>
    cases j with
    | zero =>
      have := h2 x rfl
      unfold insS
      rw [List.takeWhile_cons_of_neg (p := fun x => below2 x s) (by rw [this]; simp), List.dropWhile_cons_of_neg (p := fun x => below2 x s) (by rw [this]; simp)]
      rfl
    | succ j =>
      have hx := h1 0 x (Nat.succ_pos _) rfl
      have h3 := ih (j := j) (by simpa using hj) (fun i t hi ht => h1 (i + 1) t (by omega) (by simpa using ht)) (fun t ht => h2 t (by simpa using ht))
      unfold insS at h3 ⊢
      rw [List.takeWhile_cons_of_pos (p := fun x => below2 x s) hx, List.dropWhile_cons_of_pos (p := fun x => below2 x s) hx, List.cons_append, h3]
      rfl
/-- The document's Slots. -/
def DSlotsP (w : World) (D : List Slot) (e : Ending) (w' : World) : Prop := ∃ R c, e = .returned (.slice R (sortD D).length c) ∧ OwnG 118 3 slD w' w.heap.size R c (sortD D) ∧ Below w.heap.size w w'
theorem DSlotsP.mk {w' : World} {n : Nat} {R : Option Addr} {c : Nat} (hl : (sortD D).length = n) (ho : OwnG 118 3 slD w' w.heap.size R c (sortD D)) (hb : Below w.heap.size w w') : DSlotsP w D (.returned (.slice R n c)) w' := ⟨R, c, by rw [hl], ho, hb⟩
set_option maxRecDepth 100000 in
set_option maxHeartbeats 8000000 in
theorem dslots_any (h : DcIs w B g y p D) (hfew : D.length ≤ 100000) :
    Calls Tryz.prog 68 #[.pointer (some ⟨y.d, 0, none⟩)] w (DSlotsP w D) := by
  have H := Lib.hid h
  clear h
  go_enter Tryz.func68, Tryz.ntmps68
  go_wp2_with fail
  go_loopw [3, 4] (fun v i wr => ∃ (k : Nat) (R : Option Addr) (c : Nat), k ≤ D.length ∧ i = .int .i64 (k : Int) ∧ v = .slice R k c ∧ OwnG 118 3 slD wr w.heap.size R c (srt D k) ∧ Below w.heap.size w wr) (fun _ i _ => D.length - (intOf i).toNat)
  case atStart => exact ⟨0, none, 0, Nat.zero_le _, rfl, rfl, by simpa [srt] using OwnG.nil _ _, Below.refl _ _⟩
  case round =>
    obtain ⟨k, R, c, hk, rfl, rfl, hO, hb⟩ := hrel
    obtain ⟨wl, hwl⟩ : ∃ wl, wl = wr := ⟨_, rfl⟩
    subst hwl
    have HO := Lib.hid hO
    have HB := Lib.hid hb
    have hd := H.out.kept hb
    obtain ⟨-, -, c2⟩ := hd.c
    have hyl := (hd.lt y.d (.inl rfl)).2
    have HD := Lib.hid hd
    clear hO hb hd
    by_cases hlt : k < D.length
    rotate_left
    · obtain rfl : k = D.length := by omega
      have hs : srt D D.length = sortD D := by unfold srt sortD; rw [List.take_length]
      have hl : (sortD D).length = D.length := by rw [← hs]; exact srt_len (Nat.le_refl _)
      have HS := Lib.hid hs
      have HL := Lib.hid hl
      clear hs hl
      go_wp2_with fail
      go_ret
      exact DSlotsP.mk HL.out (by rw [← HS.out]; exact HO.out) HB.out
    obtain ⟨s, hs⟩ : ∃ s, D[k]? = some s := ⟨_, List.getElem?_eq_getElem hlt⟩
    obtain ⟨b, hA, hbl, i1, i2, s0, s1, s2⟩ := HD.out.row.slotAt hs
    rw [hA] at c2
    have i3 : k < y.cap := by omega
    have HS := Lib.hid hs
    obtain ⟨l, hl⟩ : ∃ l, l = srt D k := ⟨_, rfl⟩
    have hll : l.length = k := by rw [hl]; exact srt_len hk
    rw [← hl] at HO
    have HL := Lib.hid hl
    have HLL := Lib.hid hll
    clear hs hA hl hll
    go_wp2_with fail
    go_loopw [5] (fun a wr => ∃ j : Nat, j ≤ k ∧ a = .int .i64 (j : Int) ∧ (∀ i t, i < j → l[i]? = some t → below2 t s = true) ∧ Below wl.heap.size wl wr) (fun a _ => k - (intOf a).toNat)
    case atStart => exact ⟨0, Nat.zero_le _, rfl, fun i t hi => absurd hi (Nat.not_lt_zero _), Below.refl _ _⟩
    case round =>
      obtain ⟨j, hj, rfl, hall, hbi⟩ := hrel
      have HALL := Lib.hid hall
      have HBI := Lib.hid hbi
      have q2 := (hbi.cell (p := ⟨y.d, 2, none⟩) hyl).trans c2
      have r0 := (hbi.cell (p := ⟨b, k * 3, none⟩) hbl).trans s0
      have r1 := (hbi.cell (p := ⟨b, k * 3 + 1, none⟩) hbl).trans s1
      have hrow := HO.out.kept hbi
      have HROW := Lib.hid hrow
      have d0 : ∀ d os, (grow (redrawn wr d) os).cell? ⟨y.d, 2, none⟩ = some (.slice (some ⟨b, 0, none⟩) D.length y.cap) := fun d os => cell_regrown q2 d os
      have d1 : ∀ d os, (grow (redrawn wr d) os).cell? ⟨b, k * 3, none⟩ = some (.int .i64 s.ino) := fun d os => cell_regrown r0 d os
      have d2 : ∀ d os, (grow (redrawn wr d) os).cell? ⟨b, k * 3 + 1, none⟩ = some (.int .i64 s.page) := fun d os => cell_regrown r1 d os
      clear hall hbi q2 r0 r1 hrow
      by_cases hgo : ∃ t, l[j]? = some t ∧ below2 t s = true
      · obtain ⟨t, ht, hbt⟩ := hgo
        obtain ⟨g1, hR, hgl, j1, j2, u0, u1, -⟩ := HROW.out.slotAt ht
        rw [HLL.out] at j1 j2
        subst hR
        have j3 : j < c := by omega
        have j4 : decide ((j : Int) < (k : Int)) = true := decide_eq_true (by omega)
        have d3 : ∀ d os, (grow (redrawn wr d) os).cell? ⟨g1, j * 3, none⟩ = some (.int .i64 t.ino) := fun d os => cell_regrown u0 d os
        have d4 : ∀ d os, (grow (redrawn wr d) os).cell? ⟨g1, j * 3 + 1, none⟩ = some (.int .i64 t.page) := fun d os => cell_regrown u1 d os
        have HT := Lib.hid ht
        have HBT := Lib.hid hbt
        have hcase : decide (t.ino < s.ino) = true ∨ (decide (t.ino < s.ino) = false ∧ (t.ino == s.ino) = true ∧ decide (t.page < s.page) = true) := by
          unfold below2 at hbt
          simp only [decide_eq_true_eq] at hbt
          rcases hbt with h1 | ⟨h1, h2⟩
          · exact .inl (decide_eq_true h1)
          · exact .inr ⟨decide_eq_false (by omega), beq_iff_eq.2 h1, decide_eq_true h2⟩
        clear ht hbt u0 u1
        rcases hcase with v1 | ⟨v1, v2, v3⟩
        all_goals
          go_upto_region 8 with fail
          refine wp_region_quiet_below (by kernel_rfl) (by kernel_rfl) ?_; (repeat (go_big_quiet_step ((fail)))); refine wpQuiet_nil ?_; intro _ hw'; obtain ⟨⟨dq, osq⟩, hw''⟩ := hw'; subst hw''; have hbq := below_regrown (wr) dq osq; generalize grow (redrawn (wr) dq) osq = wq at hbq ⊢
          clear d0 d1 d2 d3 d4
          go_wp2_with fail
          go_roundw
          case rel => exact ⟨j + 1, by omega, by go_num, fun i t2 hi ht2 => by (by_cases e : i = j; (subst e; have h9 := HT.out; rw [ht2] at h9; injection h9 with h9; subst h9; exact HBT.out); exact HALL.out i t2 (by omega) ht2), HBI.out.trans (hbq.mono HBI.out.size)⟩
          case measure => (simp [intOf]; omega)
      have HINS : Hid (insS s l = l.take j ++ s :: l.drop j) := Lib.hid (while_at (by rw [HLL.out]; exact hj) HALL.out fun t ht => by
        cases hq : below2 t s with
        | false => rfl
        | true => exact absurd ⟨t, ht, hq⟩ hgo)
      have hexit : (∃ t g1, l[j]? = some t ∧ R = some ⟨g1, 0, none⟩ ∧ j < k ∧ j < c ∧ k ≤ c ∧ decide ((j : Int) < (k : Int)) = true ∧ wr.cell? ⟨g1, j * 3, none⟩ = some (.int .i64 t.ino) ∧ wr.cell? ⟨g1, j * 3 + 1, none⟩ = some (.int .i64 t.page) ∧ decide (t.ino < s.ino) = false ∧ ((t.ino == s.ino) = false ∨ ((t.ino == s.ino) = true ∧ decide (t.page < s.page) = false))) ∨
          (∃ g1, R = some ⟨g1, 0, none⟩ ∧ decide ((j : Int) < (k : Int)) = false ∧ k ≤ j ∧ k ≤ c) ∨ (R = none ∧ decide ((j : Int) < (k : Int)) = false ∧ k ≤ j ∧ k ≤ 0 ∧ c ≤ 0) := by
        rcases Nat.lt_or_ge j k with hjk | hjk
        · obtain ⟨t, ht⟩ : ∃ t, l[j]? = some t := ⟨_, List.getElem?_eq_getElem (by rw [HLL.out]; exact hjk)⟩
          obtain ⟨g1, hR, hgl, j1, j2, u0, u1, -⟩ := HROW.out.slotAt ht
          rw [HLL.out] at j1 j2
          have hn : ¬ (t.ino < s.ino ∨ t.ino = s.ino ∧ t.page < s.page) := fun e => hgo ⟨t, ht, decide_eq_true e⟩
          refine .inl ⟨t, g1, ht, hR, hjk, by omega, j2, decide_eq_true (by omega), u0, u1, decide_eq_false (by omega), ?_⟩
          by_cases e : t.ino = s.ino
          · exact .inr ⟨beq_iff_eq.2 e, decide_eq_false (by omega)⟩
          · exact .inl (beq_eq_false_iff_ne.2 e)
        · right
          rcases HROW.out.form with ⟨e1, e2, e3⟩ | ⟨g1, e1, _, _, e2⟩
          · have : k = 0 := by have h9 := HLL.out; rw [e2] at h9; simpa using h9.symm
            exact .inr ⟨e1, decide_eq_false (by omega), hjk, by omega, by omega⟩
          · rw [HLL.out] at e2
            exact .inl ⟨g1, e1, decide_eq_false (by omega), hjk, e2⟩
      have hread : ∀ a m, a + m ≤ k → 0 < m → ∀ W, Below wl.heap.size wl W → ∃ g, R = some ⟨g, 0, none⟩ ∧ ∀ i u, (((l.drop a).take m).flatMap slD)[i]? = some u → W.cell? ((⟨g, a * 3, none⟩ : Addr).add i) = some u := fun a m h1 h2 W hW => by
        have hr := HO.out.kept hW
        rcases hr.form with ⟨_, e, _⟩ | ⟨g, e, _⟩
        · have h9 := HLL.out; rw [e] at h9; simp at h9; omega
        · rw [e] at hr
          exact ⟨g, e, hr.part sd_elem a m⟩
      have HREAD := Lib.hid hread
      clear hread hgo
      have d9 : True := trivial
      rcases hexit with ⟨t, g1, ht, hR, hjk, i5, i6, g0, u0, u1, v1, hv⟩ | ⟨g1, hR, g0, hjk, i6⟩ | ⟨hR, g0, hjk, hk0, hc0⟩
      focus (
        subst hR
        have i9 : (j : Int) ≤ (c : Int) := by omega
        have d3 : ∀ d os, (grow (redrawn wr d) os).cell? ⟨g1, j * 3, none⟩ = some (.int .i64 t.ino) := fun d os => cell_regrown u0 d os
        have d4 : ∀ d os, (grow (redrawn wr d) os).cell? ⟨g1, j * 3 + 1, none⟩ = some (.int .i64 t.page) := fun d os => cell_regrown u1 d os
        clear u0 u1 ht
        rcases hv with v2 | ⟨v2, v3⟩
        all_goals
          go_upto_region 8 with fail
          refine wp_region_quiet_below (by kernel_rfl) (by kernel_rfl) ?_; (repeat (go_big_quiet_step ((fail)))); refine wpQuiet_nil ?_; intro _ hw'; obtain ⟨⟨dq, osq⟩, hw''⟩ := hw'; subst hw''; have hbq := below_regrown (wr) dq osq; generalize grow (redrawn (wr) dq) osq = wq at hbq ⊢
          clear d0 d1 d2 d3 d4)
      rotate_left 2
      focus (
        subst hR
        have i9 : (j : Int) ≤ (c : Int) := by omega
        have hnl : decide (j < k) = false := decide_eq_false (by omega)
        have hnl2 : ¬ j < k := by omega
        go_upto_region 8 with fail
        refine wp_region_quiet_below (by kernel_rfl) (by kernel_rfl) ?_; (repeat (go_big_quiet_step ((fail)))); refine wpQuiet_nil ?_; intro _ hw'; obtain ⟨⟨dq, osq⟩, hw''⟩ := hw'; subst hw''; have hbq := below_regrown (wr) dq osq; generalize grow (redrawn (wr) dq) osq = wq at hbq ⊢
        clear d0 d1 d2)
      rotate_left
      focus (
        subst hR
        have i9 : (j : Int) ≤ (c : Int) := by omega
        have hnl : decide (j < k) = false := decide_eq_false (by omega)
        have hnl2 : ¬ j < k := by omega
        clear hk0 hc0
        go_upto_region 8 with fail
        refine wp_region_quiet_below (by kernel_rfl) (by kernel_rfl) ?_; (repeat (go_big_quiet_step ((fail)))); refine wpQuiet_nil ?_; intro _ hw'; obtain ⟨⟨dq, osq⟩, hw''⟩ := hw'; subst hw''; have hbq := below_regrown (wr) dq osq; generalize grow (redrawn (wr) dq) osq = wq at hbq ⊢
        clear d0 d1 d2)
      all_goals
        have hbw : Below wl.heap.size wl wq := HBI.out.trans (hbq.mono HBI.out.size)
        have HBW := Lib.hid hbw
        have hsub : ((k - j : Nat) : Int) = (k : Int) - (j : Int) := by omega
        have i8 : (j : Int) ≤ (k : Int) := by omega
        have hb1 : Below wq.heap.size wq (wq.alloc (.cells #[] 118)) := (Below.refl _ _).alloc (Nat.le_refl _) _
        have HB1 := Lib.hid hb1
        clear hbw hb1
        go_upto_region 11 with (first
          | (at_builtin; refine app_genX sd_elem rfl (.tmp 72) (.tmp 75) rfl wq.heap.size (some ⟨wq.heap.size, 0, none⟩) 0 0 j [] (l.take j) rfl (by rw [List.length_take, HLL.out]; omega) rfl (OwnG.made0 _ _ _ wq) _ _ rfl (fun h0 => by
              obtain ⟨g', e1, e3⟩ := HREAD.out 0 j (by omega) h0 _ (HBW.out.trans (HB1.out.mono HBW.out.size))
              first
                | cases e1
                  rw [List.drop_zero, Nat.zero_mul] at e3
                  exact ⟨_, rfl, e3⟩
                | cases e1) (by omega) (by simp) ?_; intro R3 cap3 w3 ho3 hb3)
          | fail)
        have hbl3 : Below wl.heap.size wl w3 := HBW.out.trans ((HB1.out.trans hb3).mono HBW.out.size)
        have HBL3 := Lib.hid hbl3
        have HB3 := Lib.hid (show Below wq.heap.size wq w3 from HB1.out.trans hb3)
        have HO3 := Lib.hid ho3
        have q2 := (hbl3.cell (p := ⟨y.d, 2, none⟩) hyl).trans c2
        have r0 := (hbl3.cell (p := ⟨b, k * 3, none⟩) hbl).trans s0
        have r1 := (hbl3.cell (p := ⟨b, k * 3 + 1, none⟩) hbl).trans s1
        have r2 := (hbl3.cell (p := ⟨b, k * 3 + 2, none⟩) hbl).trans s2
        have hz3 := HB3.out.size
        clear ho3 hb3 hbl3
        go_upto_region 12 with (first
          | (at_builtin; refine app_gen sd_elem rfl (.tmp 77) (.tmp 85) rfl wq.heap.size R3 cap3 j ([] ++ l.take j) (by rw [List.nil_append, List.length_take, HLL.out]; omega) rfl (HO3.out.alloc _) s w3.heap.size 1 rfl (heap_alloc_new w3 _) (by omega) (by simp; omega) ?_; intro g5 cap5 w5 ho5 hg5 hat5 hlt5)
          | fail)
        have hb5 : Below wq.heap.size wq w5 := (HB3.out.alloc hz3 (.cells (slD s).toArray 118)).grown hg5 (by simp; omega) (fun b hb => by rcases HO3.out.form with ⟨e, _⟩ | ⟨g1, e, h1, _⟩ <;> rw [e] at hb <;> simp at hb <;> omega)
        have HB5 := Lib.hid hb5
        have HO5 := Lib.hid ho5
        clear q2 r0 r1 r2 hb5 ho5 hg5 hat5 hlt5
        go_wp2_with (first
          | (at_builtin; (first
              | refine app_genX sd_elem rfl (.tmp 87) (.tmp 90) rfl wq.heap.size (some ⟨g5, 0, none⟩) cap5 (j + 1) (k - j) ([] ++ l.take j ++ [s]) (l.drop j) (by rw [List.length_append, List.nil_append, List.length_take, HLL.out]; simp; omega) (by rw [List.length_drop, HLL.out]) rfl HO5.out _ _ rfl (fun h0 => by
                  obtain ⟨g', e1, e3⟩ := HREAD.out j (k - j) (by omega) h0 _ (HBW.out.trans (HB5.out.mono HBW.out.size))
                  cases e1
                  rw [List.take_of_length_le (by rw [List.length_drop, HLL.out]; omega)] at e3
                  exact ⟨_, rfl, e3⟩) (by omega) HB5.out.size ?_
              | refine app_genX sd_elem rfl (.tmp 87) (.tmp 90) rfl wq.heap.size (some ⟨g5, 0, none⟩) cap5 (j + 1) 0 ([] ++ l.take j ++ [s]) (l.drop j) (by rw [List.length_append, List.nil_append, List.length_take, HLL.out]; simp; omega) (by rw [List.length_drop, HLL.out]; omega) rfl HO5.out _ _ rfl (fun h0 => absurd h0 (Nat.lt_irrefl 0)) (by omega) HB5.out.size ?_); intro R7 cap7 w7 ho7 hb7; have HO7 := Lib.hid ho7; have HB7 := Lib.hid (HB5.out.trans hb7); clear ho7 hb7)
          | fail)
        all_goals
          go_roundw
          case rel => exact ⟨k + 1, R7, cap7, by omega, by go_num, by (congr 1; omega), by rw [srt_succ HS.out, ← HL.out, HINS.out]; have h9 := HO7.out.lower (Nat.le_trans HB.out.size HBW.out.size); simpa using h9, HB.out.trans ((HBW.out.trans (HB7.out.mono HBW.out.size)).mono HB.out.size)⟩
          case measure => (simp [intOf]; omega)

end Go.Proofs.YtkkmcnngpahfaaaGreatDoor
