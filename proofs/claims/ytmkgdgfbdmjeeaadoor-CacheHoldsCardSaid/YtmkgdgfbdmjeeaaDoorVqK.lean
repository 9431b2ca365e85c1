/- The cache's laws: does: give; does at anything. -/
import Derived.Test.YtmkgdgfbdmjeeaaDoorVqJ
namespace Go.Proofs.YtmkgdgfbdmjeeaaDoor
open Go.RowKit Go.Sort
set_option linter.unusedSimpArgs false
set_option linter.unusedVariables false

/-- append of a row's numbers, none or more, to a row that is there -/
theorem app_intsX {w : World} {ops : Array Oper} {rest : List Oper} {o : Oper} {a : Act} {Q : Exit → Act → World → Prop} (hgd : o.guard = none) (s x : Operand)
    (ho : o.op = .call { callee := .builtin .append, args := #[s, x], argTypes := #[34, 34] })
    (base g0 : Nat) (cap k m : Nat) (l l2 : List Nat) (hk : l.length = k) (hm : l2.length = m) (hs : a.eval s = .slice (some ⟨g0, 0, none⟩) k cap) (hown : OwnN w base (some ⟨g0, 0, none⟩) cap l)
    (ad : Addr) (c : Nat) (hx : a.eval x = .slice (some ad) m c) (hA : ∀ (j f : Nat), l2[j]? = some f → w.cell? (ad.add j) = some (.int .i64 (f : Int))) (hfew : k + m ≤ 10000000) (hbase : base ≤ w.heap.size)
    (h : ∀ g cap' w', OwnN w' base (some ⟨g, 0, none⟩) cap' (l ++ l2) → Below base w w' → wpList Tryd.prog ops Q rest (a.put o.dst (.slice (some ⟨g, 0, none⟩) (k + m) cap')) w') :
    wpList Tryd.prog ops Q (o :: rest) a w := by
  by_cases hm0 : m = 0
  · subst hm0
    have hl2 : l2 = [] := List.eq_nil_of_length_eq_zero hm
    subst hl2
    refine app_none hgd s x ho (some ⟨g0, 0, none⟩) k cap hs (hk ▸ hown.formS.2.2) ad c hx ?_
    exact h g0 cap w (by rw [List.append_nil]; exact hown) (Below.refl _ _)
  · refine app_ints hgd s x ho base (some ⟨g0, 0, none⟩) cap k m l l2 hk hm hs hown ad c hx hA (by omega) hfew hbase ?_
    intro g cap' w' h1 h2 h3 h4
    have hg0 := hown.formS
    exact h g cap' w' h1 ((Below.refl _ _).grown h2 hbase (fun k hk => by simp at hk; omega))

set_option maxRecDepth 100000 in
set_option maxHeartbeats 4000000 in
theorem does8_giveNo (B o a c fs m n k cl ch : Nat) (ino page N : Int) (w : World) (S : Nat → Prop) (F : List Nd) (s : St8) (ext : Nat → Nat) (Hl Hh : Option Addr) (h : Run8 w B o a c fs m S F s Hl cl Hh ch) (hf : s.Fine F ext n k) (hp : pick s.h N = none) :
    Calls Tryd.prog 48 #[.pointer (some ⟨o, 0, none⟩), .agg #[.int .i64 3, .int .i64 ino, .int .i64 page, .int .i64 N]] w (Does8Post w B o a c fs m S Hl Hh F ⟨3, ino, page, N⟩ s) := by
  obtain ⟨l1, l2, l3, l4⟩ := h.lts
  have hBw := h.base
  obtain ⟨w0, hw0⟩ : ∃ w0, w0 = w.alloc (.cells #[.int .i64 (3), .int .i64 ino, .int .i64 page, .int .i64 N] 97) := ⟨_, rfl⟩
  have hB0 : Below w.heap.size w w0 := (by rw [hw0]; exact (Below.refl _ _).alloc (Nat.le_refl _) _)
  have hE0 : w0.heap[w.heap.size]? = some (.cells #[.int .i64 (3), .int .i64 ino, .int .i64 page, .int .i64 N] 97 (0, 0)) := (by rw [hw0]; exact heap_alloc_new w _)
  have e0 : w0.cell? ⟨w.heap.size, 0, none⟩ = some (.int .i64 (3)) := one_block hE0 0
  have e1 : w0.cell? ⟨w.heap.size, 1, none⟩ = some (.int .i64 ino) := one_block hE0 1
  have e2 : w0.cell? ⟨w.heap.size, 2, none⟩ = some (.int .i64 page) := one_block hE0 2
  have e3 : w0.cell? ⟨w.heap.size, 3, none⟩ = some (.int .i64 N) := one_block hE0 3
  have o0 : w0.cell? ⟨o, 0, none⟩ = some (.pointer (some ⟨a, 0, none⟩)) := (hB0.cell (p := ⟨o, 0, none⟩) l1).trans (one_block h.self 0)
  have o2 : w0.cell? ⟨o, 2, none⟩ = some (.pointer (some ⟨c, 0, none⟩)) := (hB0.cell (p := ⟨o, 2, none⟩) l1).trans (one_block h.self 2)
  have o3 : w0.cell? ⟨o, 3, none⟩ = some (.slice Hl s.l.length cl) := (hB0.cell (p := ⟨o, 3, none⟩) l1).trans (one_block h.self 3)
  have o4 : w0.cell? ⟨o, 4, none⟩ = some (.slice Hh s.h.length ch) := (hB0.cell (p := ⟨o, 4, none⟩) l1).trans (one_block h.self 4)
  have hz0 := hB0.size
  have hdr : Below w.heap.size w w0.drew := hB0.drew
  have hzf := hf.few
  have HRUN := Lib.hid h
  have HW0 := Lib.hid hw0
  have HB0 := Lib.hid hB0
  have HF := Lib.hid hf
  clear h hw0 hB0 hf hE0
  have d0 : ∀ d os, (grow (redrawn w0 d) os).cell? ⟨o, 4, none⟩ = some (.slice Hh s.h.length ch) := fun d os => cell_regrown o4 d os
  have d1 : ∀ d os, (grow (redrawn w0 d) os).cell? ⟨w.heap.size, 3, none⟩ = some (.int .i64 N) := fun d os => cell_regrown e3 d os
  have hG := fun d os => Calls.regrown_of ((at8_no Hh ch s.h N (grow (redrawn w0 d) os) hp).mono fun _ _ ⟨h1, h2⟩ => ⟨h1, h2 ▸ Below.refl _ _⟩)
  have HG := Lib.hid hG
  have HP := Lib.hid hp
  clear hG hp
  go_enter Tryd.func48, Tryd.ntmps48
  go_upto_region 1 with (fail)
  rw [← HW0.out]
  go_upto_region 18 with (fail)
  refine wp_region_quiet_below (by kernel_rfl) (by kernel_rfl) ?_; (repeat (go_big_quiet_step ((exact HG.out _ _)))); refine wpQuiet_nil ?_; intro _ hw'; obtain ⟨⟨dq, osq⟩, hw''⟩ := hw'; subst hw''; have hbq := below_regrown (w0) dq osq; generalize grow (redrawn (w0) dq) osq = wq at hbq ⊢
  clear d0 d1 e0 e1 e2 e3 o0 o2 o3 o4
  go_wp2_with fail
  refine bodyPost_ret (results_none rfl _ _ _) rfl ?_
  exact ⟨rfl, ⟨s, S, Hl, cl, Hh, ch, (HRUN.out.below HB0.out).below hbq, .giveNo rfl HP.out, (Stay8.of HB0.out hBw).trans (Stay8.of hbq (by omega))⟩⟩

set_option maxRecDepth 100000 in
set_option maxHeartbeats 4000000 in
theorem does8_give (B o a c fs m n k cl ch f : Nat) (ino page N : Int) (w : World) (S : Nat → Prop) (F : List Nd) (s : St8) (ext : Nat → Nat) (Hl Hh : Option Addr) (h : Run8 w B o a c fs m S F s Hl cl Hh ch) (hf : s.Fine F ext n k) (hk : k ≤ 100000) (hp : pick s.h N = some f) :
    Calls Tryd.prog 48 #[.pointer (some ⟨o, 0, none⟩), .agg #[.int .i64 3, .int .i64 ino, .int .i64 page, .int .i64 N]] w (Does8Post w B o a c fs m S Hl Hh F ⟨3, ino, page, N⟩ s) := by
  obtain ⟨hN0, hh0, hpi⟩ := pick_some hp
  have hfn : f < s.p.n := by rw [hf.size]; exact hf.lowH f (List.mem_of_getElem? hpi)
  have hfc : 1 ≤ s.p.cnt f := by
    have h1 : s.p.cnt f = slotN s.L f + (cntL s.h f + ext f) := hf.even f hfn
    have h2 := cntL_pos hpi
    omega
  obtain ⟨i, hi⟩ : ∃ i, i = N.toNat % s.h.length := ⟨_, rfl⟩
  have hrem : N.tmod (s.h.length : Int) = (i : Int) := by
    obtain ⟨N', rfl⟩ := Int.eq_ofNat_of_zero_le hN0
    rw [hi]
    rfl
  rw [← hi] at hpi
  have hil : i < s.h.length := (List.getElem?_eq_some_iff.1 hpi).1
  have he : s.h.eraseIdx i = s.h.take i ++ s.h.drop (i + 1) := List.eraseIdx_eq_take_drop_succ _ _
  have hl1 : (s.h.take i).length = i := by rw [List.length_take]; omega
  have hl2 : (s.h.drop (i + 1)).length = s.h.length - (i + 1) := List.length_drop
  have hlen : (s.h.eraseIdx i).length = i + (s.h.length - (i + 1)) := by rw [he, List.length_append, hl1, hl2]
  have hres : Do8 F ⟨3, ino, page, N⟩ s ⟨s.p.down f, s.L, s.clock, s.l, s.h.eraseIdx i⟩ := by
    rw [hi]
    exact Do8.give (o := ⟨3, ino, page, N⟩) (s := s) f rfl hp
  obtain ⟨g, hg0, hcap⟩ : ∃ g, Hh = some ⟨g, 0, none⟩ ∧ s.h.length ≤ ch := by
    rcases h.rowH.form with ⟨_, h2, _⟩ | ⟨g, h2, _, _, h3⟩
    · rw [h2] at hh0; cases hh0
    · exact ⟨g, h2, h3⟩
  have hwr : IntKind.i64.wrap ((i : Int) + 1) = (i : Int) + 1 := by rw [IntKind.wrap_i64]; have := hf.few; omega
  have hr1 : (i : Int) ≤ (s.h.length : Int) := by omega
  have hr2 : (i : Int) + 1 ≤ (s.h.length : Int) := by omega
  have hr3 : ((s.h.length : Int) == 0) = false := by rw [beq_eq_false_iff_ne]; omega
  obtain ⟨l1, l2, l3, l4⟩ := h.lts
  have hBw := h.base
  obtain ⟨w0, hw0⟩ : ∃ w0, w0 = w.alloc (.cells #[.int .i64 (3), .int .i64 ino, .int .i64 page, .int .i64 N] 97) := ⟨_, rfl⟩
  have hB0 : Below w.heap.size w w0 := (by rw [hw0]; exact (Below.refl _ _).alloc (Nat.le_refl _) _)
  have hE0 : w0.heap[w.heap.size]? = some (.cells #[.int .i64 (3), .int .i64 ino, .int .i64 page, .int .i64 N] 97 (0, 0)) := (by rw [hw0]; exact heap_alloc_new w _)
  have e0 : w0.cell? ⟨w.heap.size, 0, none⟩ = some (.int .i64 (3)) := one_block hE0 0
  have e1 : w0.cell? ⟨w.heap.size, 1, none⟩ = some (.int .i64 ino) := one_block hE0 1
  have e2 : w0.cell? ⟨w.heap.size, 2, none⟩ = some (.int .i64 page) := one_block hE0 2
  have e3 : w0.cell? ⟨w.heap.size, 3, none⟩ = some (.int .i64 N) := one_block hE0 3
  have o0 : w0.cell? ⟨o, 0, none⟩ = some (.pointer (some ⟨a, 0, none⟩)) := (hB0.cell (p := ⟨o, 0, none⟩) l1).trans (one_block h.self 0)
  have o2 : w0.cell? ⟨o, 2, none⟩ = some (.pointer (some ⟨c, 0, none⟩)) := (hB0.cell (p := ⟨o, 2, none⟩) l1).trans (one_block h.self 2)
  have o3 : w0.cell? ⟨o, 3, none⟩ = some (.slice Hl s.l.length cl) := (hB0.cell (p := ⟨o, 3, none⟩) l1).trans (one_block h.self 3)
  have o4 : w0.cell? ⟨o, 4, none⟩ = some (.slice Hh s.h.length ch) := (hB0.cell (p := ⟨o, 4, none⟩) l1).trans (one_block h.self 4)
  have hz0 := hB0.size
  have hdr : Below w.heap.size w w0.drew := hB0.drew
  have hzf := hf.few
  have HRUN := Lib.hid h
  have HW0 := Lib.hid hw0
  have HB0 := Lib.hid hB0
  have HF := Lib.hid hf
  clear h hw0 hB0 hf hE0
  subst hg0
  have hrun0 := HRUN.out.below HB0.out
  have d0 : ∀ d os, (grow (redrawn w0 d) os).cell? ⟨o, 4, none⟩ = some (.slice (some ⟨g, 0, none⟩) s.h.length ch) := fun d os => cell_regrown o4 d os
  have d1 : ∀ d os, (grow (redrawn w0 d) os).cell? ⟨w.heap.size, 3, none⟩ = some (.int .i64 N) := fun d os => cell_regrown e3 d os
  have hG := fun d os => Calls.regrown_of ((at8_yes B (some ⟨g, 0, none⟩) ch f N s.h (grow (redrawn w0 d) os) (hrun0.below (below_regrown w0 d os)).rowH hp).mono fun _ _ ⟨h1, h2⟩ => ⟨h1, h2 ▸ Below.refl _ _⟩)
  have HG := Lib.hid hG
  have HRUN0 := Lib.hid hrun0
  have HRES := Lib.hid hres
  have HFN := Lib.hid hfn
  have HFC := Lib.hid hfc
  have HL1 := Lib.hid hl1
  have HL2 := Lib.hid hl2
  have HLEN := Lib.hid hlen
  have HE := Lib.hid he
  have hsh : s.h.length ≤ 100000 := by omega
  have HIL := Lib.hid hil
  have HHL := Lib.hid hsh
  clear hG hp hrun0 hres hfn hfc hl1 hl2 hlen he hi hpi hN0 hh0 hil hsh
  go_enter Tryd.func48, Tryd.ntmps48
  go_upto_region 1 with (fail)
  rw [← HW0.out]
  go_upto_region 18 with (fail)
  refine wp_region_quiet_below (by kernel_rfl) (by kernel_rfl) ?_; (repeat (go_big_quiet_step ((exact HG.out _ _)))); refine wpQuiet_nil ?_; intro _ hw'; obtain ⟨⟨dq, osq⟩, hw''⟩ := hw'; subst hw''; have hbq := below_regrown (w0) dq osq; generalize grow (redrawn (w0) dq) osq = wq at hbq ⊢
  clear d0 d1 e0 e1 e2 o0 o2 o3
  have hzq := hbq.size
  have hlt0 : w.heap.size < w0.heap.size := by rw [HW0.out]; simp
  have q4 : wq.cell? ⟨o, 4, none⟩ = some (.slice (some ⟨g, 0, none⟩) s.h.length ch) := (hbq.cell (p := ⟨o, 4, none⟩) (by show o < _; omega)).trans o4
  have q3 : wq.cell? ⟨w.heap.size, 3, none⟩ = some (.int .i64 N) := (hbq.cell (p := ⟨w.heap.size, 3, none⟩) (by show w.heap.size < _; omega)).trans e3
  have HBQ := Lib.hid hbq
  clear o4 e3 hbq
  go_upto_region 20 with (fail)
  have d0 : ∀ d os, (grow (redrawn wq d) os).cell? ⟨o, 4, none⟩ = some (.slice (some ⟨g, 0, none⟩) s.h.length ch) := fun d os => cell_regrown q4 d os
  have d1 : ∀ d os, (grow (redrawn wq d) os).cell? ⟨w.heap.size, 3, none⟩ = some (.int .i64 N) := fun d os => cell_regrown q3 d os
  refine wp_region_quiet_below (by kernel_rfl) (by kernel_rfl) ?_; (repeat (go_big_quiet_step ((fail)))); refine wpQuiet_nil ?_; intro _ hw'; obtain ⟨⟨dq, osq⟩, hw''⟩ := hw'; subst hw''; have hbr := below_regrown (wq) dq osq; generalize grow (redrawn (wq) dq) osq = wr at hbr ⊢
  clear d0 d1
  have hzr := hbr.size
  have HRR := Lib.hid ((HRUN0.out.below HBQ.out).below hbr)
  have hor : o < wr.heap.size := HRR.out.lts.1
  have HBWR := Lib.hid ((Stay8.of (X := Foot8 S o c m Hl (some ⟨g, 0, none⟩)) HB0.out hBw).trans ((Stay8.of HBQ.out (by omega)).trans (Stay8.of hbr (by omega))))
  clear q3 q4 hbr
  have r4 : wr.cell? ⟨o, 4, none⟩ = some (.slice (some ⟨g, 0, none⟩) s.h.length ch) := one_block HRR.out.self 4
  have hb0 : Below wr.heap.size wr (wr.alloc (.cells #[] 3)) := (Below.refl _ _).alloc (Nat.le_refl _) _
  have HB00 := Lib.hid hb0
  have HO0 := Lib.hid (OwnN.empty_made wr)
  have hgl := HRR.out.rowH.formS
  have hcl : ∀ W : World, Below wr.heap.size wr W → ∀ (j f : Nat), s.h[j]? = some f → W.cell? ⟨g, j, none⟩ = some (.int .i64 (f : Int)) := fun W hW j f hf => OwnN.elem (HRR.out.rowH.same (w' := W) fun b hb => by injection hb with hb; injection hb with hb; subst hb; exact hW.block _ hgl.2.1) hf
  have hc1 : ∀ (j f : Nat), (s.h.take i)[j]? = some f → (wr.alloc (.cells #[] 3)).cell? ((⟨g, 0, none⟩ : Addr).add j) = some (.int .i64 (f : Int)) := fun j f hf => by
    rw [Addr.add_mid, Nat.zero_add]
    refine hcl _ HB00.out j f ?_
    rw [List.getElem?_take] at hf
    split at hf
    · exact hf
    · cases hf
  have hc2 : ∀ W, Below wr.heap.size wr W → ∀ (j f : Nat), (s.h.drop (i + 1))[j]? = some f → W.cell? ((⟨g, i + 1, none⟩ : Addr).add j) = some (.int .i64 (f : Int)) := fun W hW j f hf => by
    rw [Addr.add_mid]
    refine hcl _ hW _ f ?_
    rw [List.getElem?_drop] at hf
    exact hf
  have HC1 := Lib.hid hc1
  have HC2 := Lib.hid hc2
  have hil := HIL.out
  have hhl := HHL.out
  clear hb0 hgl hcl hc1 hc2
  -- what stands behind both appends
  have hend : ∀ (g2 cap2 : Nat) (w2 : World), OwnN w2 wr.heap.size (some ⟨g2, 0, none⟩) cap2 (s.h.take i ++ s.h.drop (i + 1)) → Below wr.heap.size wr w2 →
      Run8 (w2.setCell ⟨o, 4, none⟩ (.slice (some ⟨g2, 0, none⟩) (i + (s.h.length - (i + 1))) cap2)) B o a c fs m S F ⟨s.p, s.L, s.clock, s.l, s.h.eraseIdx i⟩ Hl cl (some ⟨g2, 0, none⟩) cap2 ∧ Stay8 B (Foot8 S o c m Hl (some ⟨g, 0, none⟩)) (Foot8 S o c m Hl (some ⟨g2, 0, none⟩)) w (w2.setCell ⟨o, 4, none⟩ (.slice (some ⟨g2, 0, none⟩) (i + (s.h.length - (i + 1))) cap2)) := fun g2 cap2 w2 ho2 hb2 => by
    have hg2 := ho2.formS
    have hm23 := mod_set (S := fun b => b = o) (w := w2) (b := o) rfl 4 (.slice (some ⟨g2, 0, none⟩) (i + (s.h.length - (i + 1))) cap2)
    have hO2 := (hb2.block o hor).trans HRR.out.self
    obtain ⟨hrun, hbel⟩ := HRR.out.reH (H' := some ⟨g2, 0, none⟩) (c' := cap2) (l' := s.h.eraseIdx i) ((Mod.of hb2).trans (Out.refl _ _) (hm23.sub fun b hb => .inl hb)) (by
      rw [HLEN.out]
      have h8 := Joins.block_setCell (i := 4) hO2 (.slice (some ⟨g2, 0, none⟩) (i + (s.h.length - (i + 1))) cap2)
      simpa using h8) (by
      rw [HE.out]
      exact (ho2.lower HRR.out.base).same fun b hb => by
        injection hb with hb
        injection hb with hb
        subst hb
        exact hm23.block _ hg2.2.1 (by omega)) (fun b hb => by injection hb with hb; injection hb with hb; subst hb; exact .inr hg2.1)
    exact ⟨hrun, HBWR.out.trans hbel⟩
  have HEND := Lib.hid hend
  clear hend hil hhl
  by_cases hcp : i + 1 < ch
  · go_upto_region 22 with (first
      | (at_builtin; refine app_intsX rfl (.tmp 129) (.tmp 135) rfl wr.heap.size wr.heap.size 0 0 i [] (s.h.take i) rfl HL1.out rfl HO0.out ⟨g, 0, none⟩ _ rfl HC1.out (by have := HIL.out; have := HHL.out; omega) (by simp) ?_; intro g1 cap1 w1 ho1 hb1'; have HB1 := Lib.hid (HB00.out.trans hb1'); have HO1 := Lib.hid ho1; clear ho1 hb1'; rw [Nat.zero_add])
      | fail)
    have p4 : w1.cell? ⟨o, 4, none⟩ = some (.slice (some ⟨g, 0, none⟩) s.h.length ch) := (HB1.out.cell (p := ⟨o, 4, none⟩) hor).trans r4
    have hz1 := HB1.out.size
    clear r4
    go_upto_region 23 with (first
      | (at_builtin; refine app_intsX rfl (.tmp 138) (.tmp 145) rfl wr.heap.size g1 cap1 i (s.h.length - (i + 1)) (s.h.take i) (s.h.drop (i + 1)) HL1.out HL2.out rfl HO1.out ⟨g, i + 1, none⟩ _ rfl (HC2.out _ HB1.out) (by have := HIL.out; have := HHL.out; omega) hz1 ?_; intro g2 cap2 w2 ho2 hb2'; have HPU := Lib.hid (HEND.out g2 cap2 w2 ho2 (HB1.out.trans hb2')); have hO2 := ((HB1.out.trans hb2').block o hor).trans HRR.out.self; have p1 : w2.cell? ⟨o, 4, none⟩ = some (.slice (some ⟨g, 0, none⟩) s.h.length ch) := one_block hO2 4; have p2 := one_free hO2 4; clear ho2 hb2' hO2)
      | fail)
    obtain ⟨w3, hw3⟩ : ∃ w3, w3 = w2.setCell ⟨o, 4, none⟩ (.slice (some ⟨g2, 0, none⟩) (i + (s.h.length - (i + 1))) cap2) := ⟨_, rfl⟩
    rw [← hw3] at HPU ⊢
    clear hw3 p1 p2
    have x0 : w3.cell? ⟨o, 0, none⟩ = some (.pointer (some ⟨a, 0, none⟩)) := one_block HPU.out.1.self 0
    have hdown2 : Calls Tryd.prog 58 #[.pointer (some ⟨a, 0, none⟩), .int .i64 (f : Nat)] w3 fun e w4 => e = .returned (.int .i64 0) ∧ Hid (Run8 w4 B o a c fs m S F ⟨s.p.down f, s.L, s.clock, s.l, s.h.eraseIdx i⟩ Hl cl (some ⟨g2, 0, none⟩) cap2 ∧ Stay8 B (Foot8 S o c m Hl (some ⟨g2, 0, none⟩)) (Foot8 S o c m Hl (some ⟨g2, 0, none⟩)) w3 w4) := by
      refine (down_yes a f w3 S s.p HPU.out.1.cache.pool HFN.out HFC.out).mono ?_
      rintro e w4 ⟨rfl, hP4, hm4⟩
      exact ⟨rfl, Lib.hid (HPU.out.1.turn (Below.refl _ _) (HPU.out.1.cache.turn hm4 hP4 (Out.refl _ _)) (hm4.sub fun b hb => .inl hb) (Out.refl _ _))⟩
    have HD := Lib.hid hdown2
    clear hdown2
    go_wp2_with (first
      | (go_at_call 58; refine (HD.out).mono ?_; rintro e w4 ⟨rfl, HR4⟩)
      | fail)
    refine bodyPost_ret (results_none rfl _ _ _) rfl ?_
    exact ⟨rfl, ⟨_, S, _, _, _, _, HR4.out.1, HRES.out, HPU.out.2.trans HR4.out.2⟩⟩
  · have hce : ch = i + 1 := by have := HIL.out; omega
    subst hce
    have hm0 : s.h.length - (i + 1) = 0 := by omega
    have HM0 := Lib.hid hm0
    clear hm0 hcp
    go_upto_region 22 with (first
      | (at_builtin; refine app_intsX rfl (.tmp 129) (.tmp 135) rfl wr.heap.size wr.heap.size 0 0 i [] (s.h.take i) rfl HL1.out rfl HO0.out ⟨g, 0, none⟩ _ rfl HC1.out (by have := HIL.out; have := HHL.out; omega) (by simp) ?_; intro g1 cap1 w1 ho1 hb1'; have HB1 := Lib.hid (HB00.out.trans hb1'); have HO1 := Lib.hid ho1; clear ho1 hb1'; rw [Nat.zero_add])
      | fail)
    have p4 : w1.cell? ⟨o, 4, none⟩ = some (.slice (some ⟨g, 0, none⟩) s.h.length (i + 1)) := (HB1.out.cell (p := ⟨o, 4, none⟩) hor).trans r4
    have hz1 := HB1.out.size
    clear r4
    go_upto_region 23 with (first
      | (at_builtin; refine app_intsX rfl (.tmp 138) (.tmp 145) rfl wr.heap.size g1 cap1 i 0 (s.h.take i) (s.h.drop (i + 1)) HL1.out (HL2.out.trans HM0.out) rfl HO1.out _ _ rfl (fun j f hf => by have h0 := List.eq_nil_of_length_eq_zero (HL2.out.trans HM0.out); rw [h0] at hf; cases hf) (by have := HIL.out; have := HHL.out; omega) hz1 ?_; intro g2 cap2 w2 ho2 hb2'; have hpu := HEND.out g2 cap2 w2 ho2 (HB1.out.trans hb2'); rw [HM0.out, Nat.add_zero] at hpu; rw [Nat.add_zero]; have HPU := Lib.hid hpu; have hO2 := ((HB1.out.trans hb2').block o hor).trans HRR.out.self; have p1 : w2.cell? ⟨o, 4, none⟩ = some (.slice (some ⟨g, 0, none⟩) s.h.length (i + 1)) := one_block hO2 4; have p2 := one_free hO2 4; clear ho2 hb2' hO2 hpu)
      | fail)
    obtain ⟨w3, hw3⟩ : ∃ w3, w3 = w2.setCell ⟨o, 4, none⟩ (.slice (some ⟨g2, 0, none⟩) i cap2) := ⟨_, rfl⟩
    rw [← hw3] at HPU ⊢
    clear hw3 p1 p2
    have x0 : w3.cell? ⟨o, 0, none⟩ = some (.pointer (some ⟨a, 0, none⟩)) := one_block HPU.out.1.self 0
    have hdown2 : Calls Tryd.prog 58 #[.pointer (some ⟨a, 0, none⟩), .int .i64 (f : Nat)] w3 fun e w4 => e = .returned (.int .i64 0) ∧ Hid (Run8 w4 B o a c fs m S F ⟨s.p.down f, s.L, s.clock, s.l, s.h.eraseIdx i⟩ Hl cl (some ⟨g2, 0, none⟩) cap2 ∧ Stay8 B (Foot8 S o c m Hl (some ⟨g2, 0, none⟩)) (Foot8 S o c m Hl (some ⟨g2, 0, none⟩)) w3 w4) := by
      refine (down_yes a f w3 S s.p HPU.out.1.cache.pool HFN.out HFC.out).mono ?_
      rintro e w4 ⟨rfl, hP4, hm4⟩
      exact ⟨rfl, Lib.hid (HPU.out.1.turn (Below.refl _ _) (HPU.out.1.cache.turn hm4 hP4 (Out.refl _ _)) (hm4.sub fun b hb => .inl hb) (Out.refl _ _))⟩
    have HD := Lib.hid hdown2
    clear hdown2
    go_wp2_with (first
      | (go_at_call 58; refine (HD.out).mono ?_; rintro e w4 ⟨rfl, HR4⟩)
      | fail)
    refine bodyPost_ret (results_none rfl _ _ _) rfl ?_
    exact ⟨rfl, ⟨_, S, _, _, _, _, HR4.out.1, HRES.out, HPU.out.2.trans HR4.out.2⟩⟩

end Go.Proofs.YtmkgdgfbdmjeeaaDoor
