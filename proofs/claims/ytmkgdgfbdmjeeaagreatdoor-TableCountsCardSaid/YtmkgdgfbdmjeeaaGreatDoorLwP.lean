/- What is done with a table at any time: there or freed; what is seen of it; a row of counts. -/
import Derived.Test.YtmkgdgfbdmjeeaaGreatDoorTsF
import Derived.Test.YtmkgdgfbdmjeeaaGreatDoorLwO
import Derived.Test.YtmkgdgfbdmjeeaaGreatDoorLwH
import Derived.Test.YtmkgdgfbdmjeeaaGreatDoorSlB
import Derived.Test.YtmkgdgfbdmjeeaaGreatDoorTsU
namespace Go.Proofs.YtmkgdgfbdmjeeaaGreatDoor
open Go.RowKit Go.Sort
set_option linter.unusedSimpArgs false
set_option linter.unusedVariables false

/-- No leaf and no node. -/
def noTab : Tab := ⟨fun _ _ => none, fun _ => none⟩
theorem noTab_zero (f : Nat) : leafCnt noTab f = 0 ∧ nodeCnt noTab f = 0 :=
  ⟨cntTo_zero.2 fun i _ => leafIs_none rfl, nodeCnt_no fun ⟨lv, q, h⟩ => by cases h⟩
theorem freed_cnt {s : Sta} {root n k : Nat} (h : s.Fine root n k) {f : Nat} (hf : f < n) : (downs s.p ((s.T.evs 4 0).flatMap Ev.fs)).cnt f = slotN s.L f + cntH s.hold f := by
  rw [downs_cnt, h.good.ok.frames_cnt, h.good.cnt f (by rw [h.size]; exact hf)]
  show leafCnt s.T f + nodeCnt s.T f + (slotN s.L f + cntH s.hold f) - (leafCnt s.T f + nodeCnt s.T f) = _
  omega
theorem freed_fine {s : Sta} {root n k : Nat} (h : s.Fine root n k) : Freed.Fine ⟨downs s.p ((s.T.evs 4 0).flatMap Ev.fs), noTab, s.L, s.clock, s.hold⟩ n (k + 1) :=
  ⟨Freed.GoodF.of (s := ⟨downs s.p ((s.T.evs 4 0).flatMap Ev.fs), noTab, s.L, s.clock, s.hold⟩) (fun f hf => freed_cnt h (by
    have e : (downs s.p ((s.T.evs 4 0).flatMap Ev.fs)).n = n := by rw [downs_n, h.size]
    rw [← e]; exact hf)) noTab_zero, noTab_zero, h.sole, (downs_n _ _).trans h.size, by have := h.few; exact ⟨by show s.L.length ≤ _; omega, by show s.hold.length ≤ _; omega, by show 0 ≤ s.clock; omega, by show s.clock ≤ _; omega⟩, h.low, h.slow, h.keys⟩

set_option maxRecDepth 100000 in
set_option maxHeartbeats 4000000 in
theorem does_free (B o a c fs m t root n k : Nat) (A fr q N : Int) (cp : Bool) (w : World) (S : Nat → Prop) (s : Sta) (H : Option Addr) (cap : Nat) (h : RunAt w B o a c fs m t root S s H cap) (hf : s.Fine root n k) :
    Calls Tryz.prog 11 #[.pointer (some ⟨o, 0, none⟩), .agg #[.int .i64 7, .int .u64 A, .int .i64 fr, .int .u8 q, .bool cp, .int .i64 N]] w
      (fun e w' => e = .returned (Told.err 0).val ∧ Freed.RunAt w' B o a c fs m t root S ⟨downs s.p ((s.T.evs 4 0).flatMap Ev.fs), noTab, s.L, s.clock, s.hold⟩ H cap ∧ Mod (Runs S o c m t H) w w') := by
  have hO := h.own
  obtain ⟨l1, l2, l3, l4, l5⟩ := h.lts
  have hpos := hO.cache.pool.pos
  obtain ⟨w0, hw0⟩ : ∃ w0, w0 = ((w.alloc (.cells #[.int .i64 7, .int .u64 A, .int .i64 fr, .int .u8 q, .bool cp, .int .i64 N] 38)).alloc (.cells #[.int .i64 0, .int .i64 0, .int .u8 0, .bool false, .int .i64 0] 34)).alloc (.cells #[.int .i64 0, .int .i64 0, .int .u8 0, .bool false, .int .i64 0] 34) := ⟨_, rfl⟩
  have hB0 : Below w.heap.size w w0 := by (rw [hw0]; exact (((Below.refl _ _).alloc (Nat.le_refl _) _).alloc (by simp) _).alloc (by simp; omega) _)
  have hs0 : w0.heap.size = w.heap.size + 1 + 1 + 1 := by (rw [hw0]; simp)
  have hE0 : w0.heap[w.heap.size]? = some (.cells #[.int .i64 7, .int .u64 A, .int .i64 fr, .int .u8 q, .bool cp, .int .i64 N] 38 (0, 0)) := by (rw [hw0]; exact (Below.heap_alloc _ _ _ (by simp; omega)).trans ((Below.heap_alloc _ _ _ (by simp)).trans (heap_alloc_new w _)))
  have hR0 : w0.heap[w.heap.size + 1]? = some (.cells #[.int .i64 0, .int .i64 0, .int .u8 0, .bool false, .int .i64 0] 34 (0, 0)) := by
    (rw [hw0]
     have e : (w.alloc (.cells #[.int .i64 7, .int .u64 A, .int .i64 fr, .int .u8 q, .bool cp, .int .i64 N] 38)).heap.size = w.heap.size + 1 := by simp
     rw [← e]
     exact (Below.heap_alloc _ _ _ (by simp)).trans (heap_alloc_new _ _))
  have hX0 : w0.heap[w.heap.size + 1 + 1]? = some (.cells #[.int .i64 0, .int .i64 0, .int .u8 0, .bool false, .int .i64 0] 34 (0, 0)) := by
    (rw [hw0]
     have e : ((w.alloc (.cells #[.int .i64 7, .int .u64 A, .int .i64 fr, .int .u8 q, .bool cp, .int .i64 N] 38)).alloc (.cells #[.int .i64 0, .int .i64 0, .int .u8 0, .bool false, .int .i64 0] 34)).heap.size = w.heap.size + 1 + 1 := by simp
     rw [← e]
     exact heap_alloc_new _ _)
  have hdr : Below w.heap.size w w0.drew := hB0.drew
  have e0 : w0.cell? ⟨w.heap.size, 0, none⟩ = some (.int .i64 7) := one_block hE0 0
  have e1 : w0.cell? ⟨w.heap.size, 1, none⟩ = some (.int .u64 A) := one_block hE0 1
  have e2 : w0.cell? ⟨w.heap.size, 2, none⟩ = some (.int .i64 fr) := one_block hE0 2
  have e3 : w0.cell? ⟨w.heap.size, 3, none⟩ = some (.int .u8 q) := one_block hE0 3
  have e4 : w0.cell? ⟨w.heap.size, 4, none⟩ = some (.bool cp) := one_block hE0 4
  have e5 : w0.cell? ⟨w.heap.size, 5, none⟩ = some (.int .i64 N) := one_block hE0 5
  have o0 : w0.cell? ⟨o, 0, none⟩ = some (.pointer (some ⟨a, 0, none⟩)) := (hB0.cell (p := ⟨o, 0, none⟩) l1).trans (one_block hO.self 0)
  have o1 : w0.cell? ⟨o, 1, none⟩ = some (.pointer (some ⟨c, 0, none⟩)) := (hB0.cell (p := ⟨o, 1, none⟩) l1).trans (one_block hO.self 1)
  have o2 : w0.cell? ⟨o, 2, none⟩ = some (.pointer (some ⟨t, 0, none⟩)) := (hB0.cell (p := ⟨o, 2, none⟩) l1).trans (one_block hO.self 2)
  have o3 : w0.cell? ⟨o, 3, none⟩ = some (.slice H s.hold.length cap) := (hB0.cell (p := ⟨o, 3, none⟩) l1).trans (one_block hO.self 3)
  have HRUN := Lib.hid h
  have HOWN := Lib.hid hO
  have HW0 := Lib.hid hw0
  have HE0 := Lib.hid hE0
  have HR0 := Lib.hid hR0
  have HX0 := Lib.hid hX0
  have HB0 := Lib.hid hB0
  clear h hO hw0 hE0 hR0 hX0 hB0
  have hbr : w.heap.size ≤ w.heap.size + 1 ∧ w.heap.size + 1 < w0.heap.size := by omega
  have hbx : w.heap.size ≤ w.heap.size + 1 + 1 ∧ w.heap.size + 1 + 1 < w0.heap.size := by omega
  have hB0 : 0 < B := by
    obtain ⟨wf, hf1, ⟨d, x, g, nb, c2, cd, h1, _⟩, _⟩ := HRUN.out.files
    have := (Array.getElem?_eq_some_iff.1 h1).1
    omega
  have hfree := tfree_any t c a root w0 S s.p s.T _ 0 (HOWN.out.cache.below HB0.out).pool ((HB0.out.block t (by omega)).trans HOWN.out.tab) HOWN.out.noS.2 (by have := HOWN.out.lows; omega) hf.good hf.root
  have HC := Lib.hid hfree
  have nb : ∀ b, w.heap.size ≤ b → ¬ (S b ∨ b = t) := fun b hb e => by (rcases e with e | e; have := l5 b e; omega; omega)
  clear hfree
  go_enter Tryz.func11, Tryz.ntmps11
  go_upto_region 1 with (fail)
  go_upto_region 23 with (fail)
  rw [← HW0.out]
  go_upto_region 24 with (first
    | (go_at_call 50; refine (HC.out).mono ?_; rintro e w1 ⟨rfl, hP1, hm1, ht1⟩)
    | fail)
  obtain ⟨x0, x1, x2, x3, x4, u0, u1, u2, u3, u4, hlt2⟩ := told_box HX0.out hm1 (nb _ (by omega))
  obtain ⟨y0, y1, y2, y3, y4, z0, z1, z2, z3, z4, hlt1⟩ := told_box HR0.out hm1 (nb _ (by omega))
  have HP1 := Lib.hid hP1
  have HM1 := Lib.hid hm1
  have HT1 := Lib.hid ht1
  clear hP1 hm1 ht1 e0 e1 e2 e3 e4 e5 o0 o1 o2 o3
  go_wp2_with fail
  have hturn : ∀ w2, Mod (fun b => w.heap.size ≤ b ∧ b < w0.heap.size) w1 w2 → Freed.RunAt w2 B o a c fs m t root S ⟨downs s.p ((s.T.evs 4 0).flatMap Ev.fs), noTab, s.L, s.clock, s.hold⟩ H cap ∧ Mod (Runs S o c m t H) w w2 := fun w2 hm2 => by
    have hO := HOWN.out
    have hC1 := hO.cache
    have hne := hO.ne
    have hz0 := HB0.out.size
    have hz1 := HM1.out.size
    have hz2 := hm2.size
    have hpos := hC1.pool.pos
    have key : ∀ b, b < w.heap.size → ¬ S b → b ≠ t → w2.heap[b]? = w.heap[b]? := fun b hb h1 h2 =>
      (hm2.block b (by omega) (by omega)).trans ((HM1.out.block b (by omega) (fun e => e.elim h1 h2)).trans (HB0.out.block b hb))
    have hbel : Below B w w2 := ⟨hm2.os.trans (HM1.out.os.trans HB0.out.os), hm2.tape.trans (HM1.out.tape.trans HB0.out.tape), hm2.output.trans (HM1.out.output.trans HB0.out.output), by omega, fun b hb => key b (by have := HRUN.out.base; omega) (fun e => by have := hO.low b e; omega) (by have := hO.lows; omega)⟩
    obtain ⟨wf, hf1, hf2, hf3⟩ := HRUN.out.files
    have hmw : Mod (fun b => S b ∨ b = t) w w1 := (Mod.of HB0.out).trans (Out.refl _ _) HM1.out
    have hC2 : CacheAt w2 S c a fs m s.clock (downs s.p ((s.T.evs 4 0).flatMap Ev.fs)) s.L := by
      refine ⟨HP1.out.mod hm2 (fun b hb e => by have := l5 b hb; omega) (fun e => by omega), ?_, ?_, hC1.noC, hC1.noM⟩
      · exact (key c l3 hC1.noC (fun e => hne.2.2.2.2 e.symm)).trans hC1.self
      · exact hC1.slots.same (key m l4 hC1.noM (fun e => hne.2.2.2.1 e.symm))
    have hT2 : Freed.TabSelf w2 t c a root := Freed.TabSelf.keep (hm2.block t (by omega) (by omega)) HT1.out
    refine ⟨⟨⟨(key o l1 hO.noS.1 hne.2.2.1).trans hO.self, hC2, hT2, hf2.below hf1 (hf3.trans hbel), hO.low, hO.lows, hO.noS, hO.ne⟩, HRUN.out.row.same fun g hg => ?_, HRUN.out.rowNo, ⟨wf, hf1, hf2, hf3.trans hbel⟩⟩, ?_⟩
    · obtain ⟨r1, r2, r3, r4, r5⟩ := HRUN.out.rowNo g hg
      exact key g (HRUN.out.row.lt g hg).2 r1 r5
    · refine ⟨hm2.os.trans hmw.os, hm2.tape.trans hmw.tape, hm2.output.trans hmw.output, by omega, fun b hb hn => key b hb (fun e => hn (.inl e)) (fun e => hn (.inr (.inr (.inr (.inr (.inl e))))))⟩
  have HTN := Lib.hid hturn
  clear hturn
  exact bodyPost_ret (v := (Told.err 0).val) (by simp [results, Tryz.results11, go_sem, Told.val, Told.err, noLeaf, hlt1, hlt2, x0, x1, x2, x3, x4, y0, y1, y2, y3, y4, u0, u1, u2, u3, u4, z0, z1, z2, z3, z4]) rfl ⟨rfl, HTN.out _ (by (repeat (refine Mod.set ?_ (by first | exact hbr | exact hbx))); exact Mod.refl _ _)⟩

/-- A table over a cache at any time: there, or freed. -/
def Some9 (w : World) (B o a c fs m t n k : Nat) : Prop :=
  (∃ S s H cap, RunAt w B o a c fs m t 0 S s H cap ∧ s.Fine 0 n k) ∨ (∃ S s H cap, Freed.RunAt w B o a c fs m t 0 S s H cap ∧ Freed.Fine s n k)
def Some9Post (w : World) (B o a c fs m t n k : Nat) (e : Ending) (w' : World) : Prop := ∃ x : Told, e = .returned x.val ∧ Some9 w' B o a c fs m t n (k + 1) ∧ Below B w w'
theorem Freed.RunAt.belowRuns {w w' : World} {B o a c fs m t root : Nat} {S : Nat → Prop} {s : Sta} {H : Option Addr} {cap : Nat} (h : Freed.RunAt w B o a c fs m t root S s H cap) (hm : Mod (Runs S o c m t H) w w') : Below B w w' := h.belowOf hm
theorem does9_some (B o a c fs m t n k : Nat) (op : Op) (w : World) (h : Some9 w B o a c fs m t n k) (hk : k ≤ 100000) (hop : op.Ok) :
    Calls Tryz.prog 11 #[.pointer (some ⟨o, 0, none⟩), op.val] w (Some9Post w B o a c fs m t n k) := by
  rcases h with ⟨S, s, H, cap, h1, h2⟩ | ⟨S, s, H, cap, h1, h2⟩
  · by_cases h7 : op.kind = 7
    · obtain ⟨K, A, fr, q, cp, N⟩ := op
      simp only at h7
      subst h7
      refine (does_free B o a c fs m t 0 n k A fr q N cp w S s H cap h1 h2).mono ?_
      rintro e w' ⟨rfl, hr, hm⟩
      exact ⟨_, rfl, .inr ⟨_, _, _, _, hr, freed_fine h2⟩, h1.belowOf hm⟩
    · refine (does_any B o a c fs m t 0 n k op w S s H cap h1 h2 hk hop h7).mono ?_
      rintro e w' ⟨x, s', S', H', cap', rfl, hr, hm, hd⟩
      exact ⟨_, rfl, .inl ⟨_, _, _, _, hr, h2.step hop hd⟩, h1.belowOf hm⟩
  · refine (Freed.does_any B o a c fs m t 0 n k op w S s H cap h1 h2 hk hop).mono ?_
    rintro e w' ⟨x, s', S', H', cap', rfl, hr, hm, hd⟩
    exact ⟨_, rfl, .inr ⟨_, _, _, _, hr, h2.step hd⟩, h1.belowOf hm⟩

theorem Some9.below {w w' : World} {B o a c fs m t n k : Nat} (h : Some9 w B o a c fs m t n k) (hb : Below w.heap.size w w') : Some9 w' B o a c fs m t n k := by
  rcases h with ⟨S, s, H, cap, h1, h2⟩ | ⟨S, s, H, cap, h1, h2⟩
  · exact .inl ⟨S, s, H, cap, h1.below hb, h2⟩
  · exact .inr ⟨S, s, H, cap, h1.below hb, h2⟩
/-- What is seen of it: the object, the rows that it tells, each frame's count. -/
structure Seen9 (w : World) (B o a c t n : Nat) (P : List (Nat × Leaf)) (N : List Nat) (L : List Slot) (H : Option Addr) (cap : Nat) (h : List Nat) : Prop where
  self : w.heap[o]? = some (.cells #[.pointer (some ⟨a, 0, none⟩), .pointer (some ⟨c, 0, none⟩), .pointer (some ⟨t, 0, none⟩), .slice H h.length cap] 56 (0, 0))
  row : OwnN w B H cap h
  size : ∀ W, Below w.heap.size w W → Calls Tryz.prog 21 #[.pointer (some ⟨a, 0, none⟩)] W fun e w' => e = .returned (.int .i64 (n : Int)) ∧ W = w'
  all : ∀ W, Below w.heap.size w W → Calls Tryz.prog 22 #[.pointer (some ⟨t, 0, none⟩)] W (RowPost OwnP W P)
  nodes : ∀ W, Below w.heap.size w W → Calls Tryz.prog 23 #[.pointer (some ⟨t, 0, none⟩)] W (RowPost OwnN W N)
  slots : ∀ W, Below w.heap.size w W → Calls Tryz.prog 24 #[.pointer (some ⟨c, 0, none⟩)] W (SlotsPost W L)
  count : ∀ (W : World) (f : Nat), f < n → Below w.heap.size w W → Calls Tryz.prog 26 #[.pointer (some ⟨a, 0, none⟩), .int .i64 (f : Int)] W fun e w' => e = .returned (.int .i64 ((P.countP (fun y => y.2.frame == f) + N.count f + slotN L f + h.count f : Nat) : Int)) ∧ W = w'
  lowP : ∀ y ∈ P, y.2.frame < n
  lowN : ∀ f ∈ N, f < n
  lowL : ∀ x ∈ L, x.frame < n
  lowH : ∀ f ∈ h, f < n
  few : P.length ≤ 1000000 ∧ N.length ≤ 1000000 ∧ L.length ≤ 1000000 ∧ h.length ≤ 1000000
theorem flat_len {α : Type} {F : Ev → List α} (h : ∀ e, (F e).length ≤ 1) (l : List Ev) : (l.flatMap F).length ≤ l.length := by
  induction l with
  | nil => exact Nat.le_refl _
  | cons e l ih =>
    rw [List.flatMap_cons, List.length_append, List.length_cons]
    have := h e
    omega
theorem Some9.seen {w : World} {B o a c fs m t n k : Nat} (h : Some9 w B o a c fs m t n k) (hk : k ≤ 1000) (hn : n ≤ 1024) : ∃ P N L H cap h, Seen9 w B o a c t n P N L H cap h := by
  rcases h with ⟨S, s, H, cap, h1, h2⟩ | ⟨S, s, H, cap, h1, h2⟩
  · have hfew := h2.few
    have hsm : Small s.L := fun x hx => by
      obtain ⟨e1, e2, e3⟩ := h2.keys x hx
      exact ⟨by unfold small; omega, by unfold small; omega⟩
    have hshort := h2.good.ok.short
    refine ⟨(s.T.evs 4 0).flatMap Ev.ls, (s.T.evs 4 0).flatMap Ev.ns, s.L, H, cap, s.hold, h1.own.self, h1.row, fun W hW => ?_, fun W hW => ?_, fun W hW => ?_, fun W hW => ?_, fun W f hf hW => ?_, fun y hy => ?_, fun f hf => ?_, h2.slow, h2.low, ?_⟩
    · have h9 := psize_any a W S s.p (h1.below hW).own.cache.pool
      rw [h2.size] at h9
      exact h9
    · exact tall_any t c a 0 W S s.p s.T _ 0 (h1.below hW).own.cache.pool (h1.below hW).own.tab h2.good h2.root
    · exact tnodes_any t c a 0 W S s.p s.T _ 0 (h1.below hW).own.cache.pool (h1.below hW).own.tab h2.good h2.root
    · exact slots_any c a fs m s.clock W s.L (h1.below hW).own.cache.self (h1.below hW).own.cache.slots (by omega) hsm
    · have h9 := count_any a (f : Int) W S s.p (h1.below hW).own.cache.pool
      rw [countB_nat (by rw [h2.size]; exact hf), h2.good.cnt f (by rw [h2.size]; exact hf), ← h2.good.ok.leaves_cnt, ← h2.good.ok.nodes_cnt] at h9
      have e : ((s.T.evs 4 0).flatMap Ev.ls).countP (fun y => y.2.frame == f) + ((s.T.evs 4 0).flatMap Ev.ns).count f + held s.L (cntH s.hold) f = ((s.T.evs 4 0).flatMap Ev.ls).countP (fun y => y.2.frame == f) + ((s.T.evs 4 0).flatMap Ev.ns).count f + slotN s.L f + s.hold.count f := by
        unfold held cntH
        omega
      rw [e] at h9
      exact h9
    · obtain ⟨pg, l⟩ := y
      have := s.T.evs_sound pg l 4 0 hy
      rw [← h2.size]
      exact (h2.good.but.leaf pg l this).2.2
    · have h9 : 0 < ((s.T.evs 4 0).flatMap Ev.ns).count f := List.count_pos_iff.2 hf
      rw [h2.good.ok.nodes_cnt] at h9
      by_cases e : isNode s.T f
      · obtain ⟨lv, q, hq⟩ := e
        rw [← h2.size]
        exact (h2.good.node hq).1
      · rw [nodeCnt_no e] at h9; omega
    · have f1 := flat_len (F := Ev.ls) (fun e => by cases e <;> simp [Ev.ls]) (s.T.evs 4 0)
      have f2 := flat_len (F := Ev.ns) (fun e => by cases e <;> simp [Ev.ns]) (s.T.evs 4 0)
      exact ⟨by omega, by omega, by omega, by omega⟩
  · have hfew := h2.few
    have hsm : Small s.L := fun x hx => by
      obtain ⟨e1, e2, e3⟩ := h2.keys x hx
      exact ⟨by unfold small; omega, by unfold small; omega⟩
    refine ⟨[], [], s.L, H, cap, s.hold, h1.own.self, h1.row, fun W hW => ?_, fun W hW => ?_, fun W hW => ?_, fun W hW => ?_, fun W f hf hW => ?_, (fun y hy => by cases hy), (fun f hf => by cases hf), h2.slow, h2.low, ?_⟩
    · have h9 := psize_any a W S s.p (h1.below hW).own.cache.pool
      rw [h2.size] at h9
      exact h9
    · refine (all_gone (some ⟨t, 0, none⟩) W (h1.below hW).own.tab.gone).mono ?_
      rintro e w' ⟨rfl, rfl⟩
      exact ⟨none, 0, rfl, ⟨rfl, .inl ⟨rfl, rfl⟩⟩, Below.refl _ _⟩
    · refine (nodes_gone (some ⟨t, 0, none⟩) W (h1.below hW).own.tab.gone).mono ?_
      rintro e w' ⟨rfl, rfl⟩
      exact ⟨none, 0, rfl, OwnN.nil _ _, Below.refl _ _⟩
    · exact slots_any c a fs m s.clock W s.L (h1.below hW).own.cache.self (h1.below hW).own.cache.slots (by omega) hsm
    · have h9 := count_any a (f : Int) W S s.p (h1.below hW).own.cache.pool
      have h8 : s.p.cnt f = slotN s.L f + cntH s.hold f := h2.even f (by rw [h2.size]; exact hf)
      rw [countB_nat (by rw [h2.size]; exact hf), h8] at h9
      have e : ([] : List (Nat × Leaf)).countP (fun y => y.2.frame == f) + ([] : List Nat).count f + slotN s.L f + s.hold.count f = slotN s.L f + cntH s.hold f := by
        unfold cntH
        simp
      rw [e]
      exact h9
    · exact ⟨by simp, by simp, by omega, by omega⟩

/-! ### a row of counts -/
def IntRow (w : World) (g n : Nat) (c : Nat → Nat) : Prop := w.heap[g]? = some (.cells (rowV n fun i => .int .i64 (c i : Int)) 3 (0, 0))
theorem IntRow.congr {w : World} {g n : Nat} {c d : Nat → Nat} (h : IntRow w g n c) (e : ∀ i, i < n → c i = d i) : IntRow w g n d := by
  unfold IntRow at h ⊢
  rw [rowV_congr (h := fun i => .int .i64 (d i : Int)) (fun i hi => by rw [e i hi])] at h
  exact h
theorem int_info9 : (Tryz.prog.info? 3).map (fun i => (i.zero, i.size, i.bytes)) = some (some (.int .i64 0), 1, 8) := by kernel_rfl
theorem make_ints9 (n : Nat) (hn : n ≤ 1000000) (W : World) : (Instr.makeSlice 51 (.int .i64 (n : Int)) (.int .i64 (n : Int))).run Tryz.prog W = .ok (.slice (some ⟨W.heap.size, 0, none⟩) n n) (W.alloc (.cells (rowV n fun _ => .int .i64 0) 3)) := by
  obtain ⟨i0, hi0, hz0, hz1, hz2⟩ := info_parts int_info9
  have h := run_make (P := Tryz.prog) W 51 3 i0 (.int .i64 0) Tryz.underlying51 hi0 hz0 .i64 .i64 (n : Int) (n : Int) (by omega) (by omega) (by rw [hz2]; omega) (by omega)
  rw [h, hz1]
  simp [Value.cells, made_rowV]
set_option maxHeartbeats 1000000 in
theorem more_any (g n f : Nat) (c : Nat → Nat) (w : World) (h : IntRow w g n c) (hf : f < n) (hc : c f ≤ 1000000000) :
    Calls Tryz.prog 25 #[.slice (some ⟨g, 0, none⟩) n n, .int .i64 (f : Int)] w fun e w' => e = .returned (.slice (some ⟨g, 0, none⟩) n n) ∧ IntRow w' g n (upd c f (c f + 1)) ∧ Mod (fun b => b = g) w w' := by
  have c0 : w.cell? ⟨g, f, none⟩ = some (.int .i64 (c f : Int)) := row_cell h hf
  have c1 : w.frozen? ⟨g, f, none⟩ = false := one_free h f
  obtain ⟨x, hx⟩ : ∃ x, x = c f := ⟨_, rfl⟩
  rw [← hx] at c0 hc ⊢
  have hres : IntRow (w.setCell ⟨g, f, none⟩ (.int .i64 ((x : Int) + 1))) g n (upd c f (x + 1)) := by
    unfold IntRow at h ⊢
    rw [Joins.block_setCell (i := f) h (.int .i64 ((x : Int) + 1)), rowV_set]
    rw [show (Value.int .i64 ((x : Int) + 1)) = Value.int .i64 ((x + 1 : Nat) : Int) by rfl, rowV_upd n (fun y : Nat => Value.int .i64 (y : Int)) c f (x + 1)]
  have hi : (f : Int) < (n : Int) := by omega
  have HRES := Lib.hid hres
  clear hx hres h
  go_enter Tryz.func25, Tryz.ntmps25
  go_wp2_with fail
  go_ret
  exact ⟨rfl, HRES.out, mod_set (S := fun b => b = g) rfl f _⟩

end Go.Proofs.YtmkgdgfbdmjeeaaGreatDoor
