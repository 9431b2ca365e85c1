/- Regions: done of the program; joined and few of the references. -/
import Derived.Test.YtadmeeabbkpmlaaGreatDoorRegG
namespace Go.Proofs.YtadmeeabbkpmlaaGreatDoor
open Go.RowKit Go.Sort
set_option linter.unusedSimpArgs false
set_option linter.unusedVariables false
set_option maxRecDepth 100000

/-- One more region behind those that are joined already. -/
def Rg.push (acc : List Reg) (r : Reg) : List Reg := match acc.getLast? with
  | none => acc ++ [r]
  | some p => if Rg.joins p r = true then acc.set (acc.length - 1) ⟨p.fr, r.to, p.prot, p.ino, p.off⟩ else acc ++ [r]
def Rg.joined (l : List Reg) : List Reg := l.foldl Rg.push []
def Rg.few (l : List Reg) : List Reg × Int := if 64 < l.length then ([], 15) else (l, 0)

theorem joined_take {l : List Reg} {k : Nat} {r : Reg} (hr : l[k]? = some r) : Rg.joined (l.take (k + 1)) = Rg.push (Rg.joined (l.take k)) r := by
  rw [List.take_add_one, hr]
  simp [Rg.joined, List.foldl_append]
theorem push_len (acc : List Reg) (r : Reg) : (Rg.push acc r).length ≤ acc.length + 1 := by
  unfold Rg.push
  split
  · simp
  · split <;> simp
theorem joined_len (l : List Reg) : (Rg.joined l).length ≤ l.length := by
  have h : ∀ (l acc : List Reg), (l.foldl Rg.push acc).length ≤ acc.length + l.length := by
    intro l
    induction l with
    | nil => intro acc; simp
    | cons r l ih =>
      intro acc
      have h1 := ih (Rg.push acc r)
      have h2 := push_len acc r
      simp only [List.foldl_cons, List.length_cons]
      omega
  have := h l []
  simpa [Rg.joined] using this
theorem push_nil (r : Reg) : Rg.push [] r = [r] := rfl
theorem push_yes {acc : List Reg} {j : Nat} {p r : Reg} (hm : acc.length = j + 1) (hp : acc[j]? = some p) (hj : Rg.joins p r = true) : Rg.push acc r = acc.set j ⟨p.fr, r.to, p.prot, p.ino, p.off⟩ := by
  unfold Rg.push
  have : acc.getLast? = some p := by rw [List.getLast?_eq_getElem?, hm]; exact hp
  rw [this]
  simp [hj, hm]
theorem push_no {acc : List Reg} {j : Nat} {p r : Reg} (hm : acc.length = j + 1) (hp : acc[j]? = some p) (hj : Rg.joins p r = false) : Rg.push acc r = acc ++ [r] := by
  unfold Rg.push
  have : acc.getLast? = some p := by rw [List.getLast?_eq_getElem?, hm]; exact hp
  rw [this]
  simp [hj]

theorem rcs_set_to {l : List Reg} {j : Nat} {p : Reg} (hp : l[j]? = some p) (t : Int) : (rcs l).set (j * 5 + 1) (.int .u64 t) = rcs (l.set j ⟨p.fr, t, p.prot, p.ino, p.off⟩) := by
  induction l generalizing j with
  | nil => simp at hp
  | cons x l ih =>
    cases j with
    | zero =>
      simp at hp
      subst hp
      simp [rcs, rc]
    | succ j =>
      simp at hp
      have e := ih hp
      have e0 : (j + 1) * 5 = j * 5 + 1 + 1 + 1 + 1 + 1 := by omega
      simp only [rcs, rc, List.cons_append, List.nil_append, List.set_cons_succ] at e ⊢
      rw [e0]
      simp only [List.set_cons_succ]
      rw [← e]
theorem OwnR.setTo {w : World} {base g : Nat} {cap : Nat} {l : List Reg} (h : OwnR w base (some ⟨g, 0, none⟩) cap l) {j : Nat} {p : Reg} (hp : l[j]? = some p) (t : Int) :
    OwnR (w.setCell ⟨g, j * 5 + 1, none⟩ (.int .u64 t)) base (some ⟨g, 0, none⟩) cap (l.set j ⟨p.fr, t, p.prot, p.ino, p.off⟩) := by
  unfold OwnR at *
  rw [List.length_set, ← rcs_set_to hp t]
  exact (h.stored (j * 5 + 1) _).1

/-- What the walk needs of a row of the call's own in a world: one element. -/
theorem OwnR.elem {w : World} {base g : Nat} {cap : Nat} {l : List Reg} (h : OwnR w base (some ⟨g, 0, none⟩) cap l) {j : Nat} {p : Reg} (hp : l[j]? = some p) : RegAt w g (j * 5) p := by
  have hk : j < l.length := (List.getElem?_eq_some_iff.1 hp).1
  have e : ∀ i, i < 5 → w.cell? ⟨g, j * 5 + i, none⟩ = (rc p)[i]? := fun i hi => by
    rw [World.ownsRow.cellAt h (j * 5 + i) (by omega), rcs_get hp i hi]
  exact ⟨e 0 (by omega), e 1 (by omega), e 2 (by omega), e 3 (by omega), e 4 (by omega)⟩

theorem below_app {w X w2 : World} {base : Nat} {A : Option Addr} {cap : Nat} {l : List Reg} (hb : Below base w X) (hown : OwnR X base A cap l) (hg : X.grownBy w2 (A.map (·.block))) (hbase : base ≤ X.heap.size) : Below base w w2 :=
  hb.grown hg hbase fun k hk => (hown.row k hk).1

set_option maxHeartbeats 2000000 in
theorem done_any (A : Option Addr) (n cap : Nat) (w : World) (l : List Reg) (hl : RSl w w.heap.size A n cap l) (hf : n ≤ 1000) :
    Calls Tryz.prog 181 #[.slice A n cap] w
      fun e w' => ∃ A' cap', e = .returned (.tuple #[.slice A' (Rg.few (Rg.joined l)).1.length cap', .int .i64 (Rg.few (Rg.joined l)).2]) ∧ OwnR w' w.heap.size A' cap' (Rg.few (Rg.joined l)).1 ∧ Below w.heap.size w w' := by
  have hln := Lib.hid hl.len
  go_enter Tryz.func181, Tryz.ntmps181
  go_wp2
  go_loopw [4, 10] (fun v i wr => ∃ k : Nat, k ≤ n ∧ i = .int .i64 k ∧ Below w.heap.size w wr ∧ ∃ A cap, v = .slice A (Rg.joined (l.take k)).length cap ∧ OwnR wr w.heap.size A cap (Rg.joined (l.take k))) (fun _ i _ => n - (intOf i).toNat)
  case atStart => exact ⟨0, Nat.zero_le _, rfl, Below.refl _ _, none, 0, rfl, OwnR.nil _ _⟩
  case round =>
    obtain ⟨k, hk, rfl, hB, A1, c1, rfl, ho⟩ := hrel
    have hBs := hB.size
    have hjl := joined_len (l.take k)
    have hlk : (l.take k).length ≤ 1000 := by rw [List.length_take]; omega
    by_cases hlt : k < n
    · obtain ⟨r, hr⟩ : ∃ r, l[k]? = some r := ⟨_, List.getElem?_eq_getElem (by have := hln.out; omega)⟩
      obtain ⟨b, off, rfl, hb, hra⟩ := hl.at_ k r hr
      obtain ⟨h0, h1, h2, h3, h4⟩ := hra.below hB hb
      have HR := Lib.hid hr
      have hbox := BoxAt.new wr r
      have b0 := fun d os => (hbox.re d os).c0
      have b1 := fun d os => (hbox.re d os).c1
      have b2 := fun d os => (hbox.re d os).c2
      have b3 := fun d os => (hbox.re d os).c3
      have b4 := fun d os => (hbox.re d os).c4
      have HT := Lib.hid (joined_take hr)
      generalize hacc : Rg.joined (l.take k) = acc at *
      have hfew : acc.length < 1000000 := by omega
      generalize hm : acc.length = m at *
      have HM := Lib.hid hm
      have HO := Lib.hid ho
      clear hr hra hbox ho hacc hm
      rcases Nat.eq_zero_or_pos m with rfl | hm0
      · have hnil : acc = [] := List.eq_nil_of_length_eq_zero HM.out
        have HN := Lib.hid hnil
        clear hnil
        go_wp2
        refine wp_region_quiet_below (by kernel_rfl) (by kernel_rfl) ?_; (repeat (go_big_quiet_step (fail))); refine wpQuiet_nil ?_; intro _ hw'; obtain ⟨⟨dq, osq⟩, hw''⟩ := hw'; subst hw''; have hbq := below_regrown (wr.alloc (.cells #[.int .u64 r.fr, .int .u64 r.to, .int .u8 r.prot, .int .i64 r.ino, .int .u64 r.off] 179)) dq osq; generalize grow (redrawn (wr.alloc (.cells #[.int .u64 r.fr, .int .u64 r.to, .int .u8 r.prot, .int .i64 r.ino, .int .u64 r.off] 179)) dq) osq = wq at hbq ⊢
        have hqs := hbq.size
        simp at hqs
        have q0 : wq.cell? ⟨wr.heap.size, 0, none⟩ = some (.int .u64 r.fr) := (hbq.cell (p := ⟨wr.heap.size, 0, none⟩) (by simp)).trans (by simp)
        have q1 : wq.cell? ⟨wr.heap.size, 1, none⟩ = some (.int .u64 r.to) := (hbq.cell (p := ⟨wr.heap.size, 1, none⟩) (by simp)).trans (by simp)
        have q2 : wq.cell? ⟨wr.heap.size, 2, none⟩ = some (.int .u8 r.prot) := (hbq.cell (p := ⟨wr.heap.size, 2, none⟩) (by simp)).trans (by simp)
        have q3 : wq.cell? ⟨wr.heap.size, 3, none⟩ = some (.int .i64 r.ino) := (hbq.cell (p := ⟨wr.heap.size, 3, none⟩) (by simp)).trans (by simp)
        have q4 : wq.cell? ⟨wr.heap.size, 4, none⟩ = some (.int .u64 r.off) := (hbq.cell (p := ⟨wr.heap.size, 4, none⟩) (by simp)).trans (by simp)
        clear b0 b1 b2 b3 b4
        go_wp2_with (at_builtin; refine app_reg rfl (.tmp 33) (.tmp 35) rfl (w.heap.size) A1 c1 acc (by rw [HM.out]; rfl) ((((HO.out).alloc _).below hbq (by simp)).alloc _) r (wq.heap.size) 1 rfl (heap_alloc_new wq _) (by rw [HM.out]; omega) (by simp; omega) ?_; rw [HM.out]; intro g' cap' w2 ho2 hg2 hat2 hlt2; have hB2 := below_app (w := w) (by ((repeat' (with_reducible (first | assumption | (refine Below.alloc ?_ ?_ _) | (refine Below.setCell ?_ ?_ _) | (refine Below.drew ?_) | (refine below_drewN ?_ _) | exact Below.refl _ _ | (refine Below.trans ?_ (Below.mono (by assumption) ?_))))) <;> (try simp) <;> (try omega))) ((((HO.out).alloc _).below hbq (by simp)).alloc _) hg2 (by simp; omega))
        have hfin : Rg.joined (l.take (k + 1)) = acc ++ [r] := by rw [HT.out, HN.out]; rfl
        go_roundw
        case rel => exact ⟨k + 1, by omega, by go_num, hB2, some ⟨g', 0, none⟩, cap', by rw [hfin]; simp [HN.out], by rw [hfin]; exact ho2⟩
        case measure => simp [intOf]; omega
      · obtain ⟨j, rfl⟩ : ∃ j, m = j + 1 := ⟨m - 1, by omega⟩
        obtain ⟨g, rfl, hg1, hg2, hgc⟩ := (HO.out.form).resolve_left (by rintro ⟨_, h, _⟩; have := HM.out; rw [h] at this; simp at this)
        rw [HM.out] at hgc
        obtain ⟨p, hp⟩ : ∃ p, acc[j]? = some p := ⟨_, List.getElem?_eq_getElem (by have := HM.out; omega)⟩
        have hpa := (HO.out.elem hp).alloc (.cells #[.int .u64 r.fr, .int .u64 r.to, .int .u8 r.prot, .int .i64 r.ino, .int .u64 r.off] 179)
        have p0 := fun d os => (hpa.re d os).c0
        have p1 := fun d os => (hpa.re d os).c1
        have p2 := fun d os => (hpa.re d os).c2
        have p3 := fun d os => (hpa.re d os).c3
        have p4 := fun d os => (hpa.re d os).c4
        have HP := Lib.hid hp
        clear hp hpa
        have cJ := fun d os => joins_q (W := wr.alloc (.cells #[.int .u64 r.fr, .int .u64 r.to, .int .u8 r.prot, .int .i64 r.ino, .int .u64 r.off] 179)) p r d os
        cases hj : Rg.joins p r with
        | true =>
          rw [hj] at cJ
          have CJ := Lib.hid cJ
          have hfin := Lib.hid (HT.out.trans (push_yes HM.out HP.out hj))
          clear cJ hj
          go_wp2
          refine wp_region_quiet_below (by kernel_rfl) (by kernel_rfl) ?_; (repeat (go_big_quiet_step (exact CJ.out _ _))); refine wpQuiet_nil ?_; intro _ hw'; obtain ⟨⟨dq, osq⟩, hw''⟩ := hw'; subst hw''; have hbq := below_regrown (wr.alloc (.cells #[.int .u64 r.fr, .int .u64 r.to, .int .u8 r.prot, .int .i64 r.ino, .int .u64 r.off] 179)) dq osq; generalize grow (redrawn (wr.alloc (.cells #[.int .u64 r.fr, .int .u64 r.to, .int .u8 r.prot, .int .i64 r.ino, .int .u64 r.off] 179)) dq) osq = wq at hbq ⊢
          have hqs := hbq.size
          simp at hqs
          have q1 : wq.cell? ⟨wr.heap.size, 1, none⟩ = some (.int .u64 r.to) := (hbq.cell (p := ⟨wr.heap.size, 1, none⟩) (by simp)).trans (by simp)
          have hoq := ((HO.out).alloc (.cells #[.int .u64 r.fr, .int .u64 r.to, .int .u8 r.prot, .int .i64 r.ino, .int .u64 r.off] 179)).below hbq (by simp)
          have qa := (hoq.elem HP.out).c1
          have qf := World.ownsRow.frozenAt hoq (j * 5 + 1)
          have hset := Lib.hid (hoq.setTo HP.out r.to)
          clear b0 b1 b2 b3 b4 p0 p1 p2 p3 p4 hoq
          go_wp2
          have hl2 : (acc.set j ⟨p.fr, r.to, p.prot, p.ino, p.off⟩).length = j + 1 := by rw [List.length_set, HM.out]
          have hset2 := hset.out
          go_roundw
          case rel => exact ⟨k + 1, by omega, by go_num, by ((repeat' (with_reducible (first | assumption | (refine Below.alloc ?_ ?_ _) | (refine Below.setCell ?_ ?_ _) | (refine Below.drew ?_) | (refine below_drewN ?_ _) | exact Below.refl _ _ | (refine Below.trans ?_ (Below.mono (by assumption) ?_))))) <;> (try simp) <;> (try omega)), some ⟨g, 0, none⟩, c1, by rw [hfin.out, hl2], by rw [hfin.out]; exact hset2⟩
          case measure => simp [intOf]; omega
        | false =>
          rw [hj] at cJ
          have CJ := Lib.hid cJ
          have hfin := Lib.hid (HT.out.trans (push_no HM.out HP.out hj))
          clear cJ hj
          go_wp2
          refine wp_region_quiet_below (by kernel_rfl) (by kernel_rfl) ?_; (repeat (go_big_quiet_step (exact CJ.out _ _))); refine wpQuiet_nil ?_; intro _ hw'; obtain ⟨⟨dq, osq⟩, hw''⟩ := hw'; subst hw''; have hbq := below_regrown (wr.alloc (.cells #[.int .u64 r.fr, .int .u64 r.to, .int .u8 r.prot, .int .i64 r.ino, .int .u64 r.off] 179)) dq osq; generalize grow (redrawn (wr.alloc (.cells #[.int .u64 r.fr, .int .u64 r.to, .int .u8 r.prot, .int .i64 r.ino, .int .u64 r.off] 179)) dq) osq = wq at hbq ⊢
          have hqs := hbq.size
          simp at hqs
          have q0 : wq.cell? ⟨wr.heap.size, 0, none⟩ = some (.int .u64 r.fr) := (hbq.cell (p := ⟨wr.heap.size, 0, none⟩) (by simp)).trans (by simp)
          have q1 : wq.cell? ⟨wr.heap.size, 1, none⟩ = some (.int .u64 r.to) := (hbq.cell (p := ⟨wr.heap.size, 1, none⟩) (by simp)).trans (by simp)
          have q2 : wq.cell? ⟨wr.heap.size, 2, none⟩ = some (.int .u8 r.prot) := (hbq.cell (p := ⟨wr.heap.size, 2, none⟩) (by simp)).trans (by simp)
          have q3 : wq.cell? ⟨wr.heap.size, 3, none⟩ = some (.int .i64 r.ino) := (hbq.cell (p := ⟨wr.heap.size, 3, none⟩) (by simp)).trans (by simp)
          have q4 : wq.cell? ⟨wr.heap.size, 4, none⟩ = some (.int .u64 r.off) := (hbq.cell (p := ⟨wr.heap.size, 4, none⟩) (by simp)).trans (by simp)
          clear b0 b1 b2 b3 b4 p0 p1 p2 p3 p4
          go_wp2_with (at_builtin; refine app_reg rfl (.tmp 33) (.tmp 35) rfl (w.heap.size) (some ⟨g, 0, none⟩) c1 acc (by rw [HM.out]; rfl) ((((HO.out).alloc _).below hbq (by simp)).alloc _) r (wq.heap.size) 1 rfl (heap_alloc_new wq _) (by rw [HM.out]; omega) (by simp; omega) ?_; rw [HM.out]; intro g' cap' w2 ho2 hg2 hat2 hlt2; have hB2 := below_app (w := w) (by ((repeat' (with_reducible (first | assumption | (refine Below.alloc ?_ ?_ _) | (refine Below.setCell ?_ ?_ _) | (refine Below.drew ?_) | (refine below_drewN ?_ _) | exact Below.refl _ _ | (refine Below.trans ?_ (Below.mono (by assumption) ?_))))) <;> (try simp) <;> (try omega))) ((((HO.out).alloc _).below hbq (by simp)).alloc _) hg2 (by simp; omega))
          have hl2 : (acc ++ [r]).length = j + 1 + 1 := by rw [List.length_append, HM.out]; rfl
          go_roundw
          case rel => exact ⟨k + 1, by omega, by go_num, hB2, some ⟨g', 0, none⟩, cap', by rw [hfin.out, hl2], by rw [hfin.out]; exact ho2⟩
          case measure => simp [intOf]; omega
    · have ht : l.take k = l := List.take_of_length_le (by have := hln.out; omega)
      have HT := Lib.hid ht
      generalize hacc : Rg.joined (l.take k) = acc at *
      have HA := Lib.hid hacc
      have HO := Lib.hid ho
      clear ht hacc ho
      by_cases h64 : 64 < acc.length
      · have hfw : Rg.few (Rg.joined l) = ([], 15) := by rw [← HT.out, HA.out]; simp [Rg.few, h64]
        have HF := Lib.hid hfw
        clear hfw
        go_wp2
        go_ret2
        refine ⟨none, 0, ?_, ?_, hB⟩
        · rw [HF.out]; rfl
        · rw [HF.out]; exact OwnR.nil _ _
      · have hfw : Rg.few (Rg.joined l) = (acc, 0) := by rw [← HT.out, HA.out]; simp [Rg.few, h64]
        have HF := Lib.hid hfw
        clear hfw
        go_wp2
        go_ret2
        refine ⟨A1, c1, ?_, ?_, hB⟩
        · rw [HF.out]; rfl
        · rw [HF.out]; exact HO.out

end Go.Proofs.YtadmeeabbkpmlaaGreatDoor
