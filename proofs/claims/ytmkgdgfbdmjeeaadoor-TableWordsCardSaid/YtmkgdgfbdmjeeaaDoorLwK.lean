/- TableWords, its walk. -/
import Derived.Test.YtmkgdgfbdmjeeaaDoorLwF
import Derived.Test.YtmkgdgfbdmjeeaaDoorLwH
import Derived.Test.YtmkgdgfbdmjeeaaDoorLwJ
import Derived.Deep.DeepCutAuto
import Derived.Deep.CutBlock
namespace Go.Proofs.YtmkgdgfbdmjeeaaDoor
open Go.RowKit Go.Sort
set_option linter.unusedSimpArgs false
set_option linter.unusedVariables false

theorem sum_take_succ {l : List Nat} {i f : Nat} (W : Nat → Nat) (h : l[i]? = some f) : ((l.take (i + 1)).map W).sum = ((l.take i).map W).sum + W f := by
  rw [take_snoc h, List.map_append, List.sum_append]
  simp
theorem sum_le (W : Nat → Nat) (K : Nat) (hW : ∀ f, W f ≤ K) (l : List Nat) : (l.map W).sum ≤ l.length * K := by
  induction l with
  | nil => simp
  | cons x l ih =>
    have := hW x
    rw [List.map_cons, List.sum_cons, List.length_cons, Nat.succ_mul]
    omega
theorem cntTo_le2 (q : Nat → Bool) (n : Nat) : cntTo q n ≤ n := by
  induction n with
  | zero => simp [cntTo]
  | succ n ih => unfold cntTo; split <;> omega
theorem OwnP.formS {w : World} {base g cap : Nat} {l : List (Nat × Leaf)} (h : OwnP w base (some ⟨g, 0, none⟩) cap l) : base ≤ g ∧ g < w.heap.size ∧ l.length ≤ cap := by
  rcases h.form with ⟨h1, _⟩ | ⟨g', h1, h2, h3, h4⟩
  · cases h1
  · injection h1 with h1
    injection h1 with h1
    subst h1
    exact ⟨h2, h3, h4⟩
theorem leaf_set {w : World} {b : Nat} {x0 x1 x2 y0 y1 y2 : Value} {T : TypeId} (h : w.heap[b]? = some (.cells #[x0, x1, x2] T (0, 0))) : (((w.setCell ⟨b, 0, none⟩ y0).setCell ⟨b, 1, none⟩ y1).setCell ⟨b, 2, none⟩ y2).heap[b]? = some (.cells #[y0, y1, y2] T (0, 0)) := by
  have h1 := Joins.block_setCell (i := 2) (Joins.block_setCell (i := 1) (Joins.block_setCell (i := 0) h y0) y1) y2
  simpa using h1
theorem leaf_far {w : World} {b c i : Nat} {y0 y1 y2 v : Value} (h : w.cell? ⟨c, i, none⟩ = some v) (hne : c ≠ b) : (((w.setCell ⟨b, 0, none⟩ y0).setCell ⟨b, 1, none⟩ y1).setCell ⟨b, 2, none⟩ y2).cell? ⟨c, i, none⟩ = some v := by
  have hm : Mod (fun j => j = b) w (((w.setCell ⟨b, 0, none⟩ y0).setCell ⟨b, 1, none⟩ y1).setCell ⟨b, 2, none⟩ y2) := ((mod_set (S := fun j => j = b) rfl 0 y0).trans (Out.refl _ _) (mod_set (S := fun j => j = b) rfl 1 y1)).trans (Out.refl _ _) (mod_set (S := fun j => j = b) rfl 2 y2)
  rw [← h]
  exact World.cell?_of_block (hm.block c (World.block_lt_of_cell? _ _ h) hne)
theorem leaf_mod (w : World) (b : Nat) (y0 y1 y2 : Value) (c : Nat) (hc : c < w.heap.size) (hne : c ≠ b) : (((w.setCell ⟨b, 0, none⟩ y0).setCell ⟨b, 1, none⟩ y1).setCell ⟨b, 2, none⟩ y2).heap[c]? = w.heap[c]? := by
  have hm : Mod (fun j => j = b) w (((w.setCell ⟨b, 0, none⟩ y0).setCell ⟨b, 1, none⟩ y1).setCell ⟨b, 2, none⟩ y2) := ((mod_set (S := fun j => j = b) rfl 0 y0).trans (Out.refl _ _) (mod_set (S := fun j => j = b) rfl 1 y1)).trans (Out.refl _ _) (mod_set (S := fun j => j = b) rfl 2 y2)
  exact hm.block c hc hne
/-- What the statement asks of a table. -/
structure WordsOk (s : Sta) (n : Nat) (ns : List Nat) (ls : List (Nat × Leaf)) (W : Nat → Nat) (N : Nat) : Prop where
  first : ns[0]? = some 0
  live : ∀ f ∈ ns, f < s.p.n ∧ 1 ≤ s.p.cnt f
  leaf : ∀ x ∈ ls, s.T.lf x.1 = some x.2 ∧ x.1 < 68719476736
  few : ns.length ≤ 10000000 ∧ ls.length ≤ 10000000
  sum : (ns.map W).sum + 1 = ns.length + ls.length
  is : ∀ f, W f = cntTo (fun i => word (s.p.dat f) i != 0) N
theorem words_ok {s : Sta} {n k : Nat} (h : s.Fine 0 n k) {W : Nat → Nat} {N : Nat} (hN : N = 512) (hW : ∀ f, W f = cntTo (fun i => word (s.p.dat f) i != 0) N) : WordsOk s n ((s.T.evs 4 0).flatMap Ev.ns) ((s.T.evs 4 0).flatMap Ev.ls) W N := by
  refine ⟨?_, fun f hf => ?_, fun x hx => ?_, ⟨?_, ?_⟩, h.good.ok.words_all hN hW, hW⟩
  · rw [Tab.evs_ns h.root]
    rfl
  · obtain ⟨l, d, y, _, _, _, h4⟩ := (h.good.ok.mem_ns f 4 0 (by omega)).1 hf
    exact h.good.node h4
  · obtain ⟨pg, y⟩ := x
    exact ⟨s.T.evs_sound pg y 4 0 hx, s.T.evs_bounds h.good.ok pg y hx⟩
  · exact Nat.le_trans (flatMap_few (F := Ev.ns) (fun e => by cases e <;> simp [Ev.ns]) _) (Nat.le_trans h.good.ok.short (by decide))
  · exact Nat.le_trans (flatMap_few (F := Ev.ls) (fun e => by cases e <;> simp [Ev.ls]) _) (Nat.le_trans h.good.ok.short (by decide))

set_option maxRecDepth 100000 in
set_option maxHeartbeats 4000000 in
theorem tableWords_any (n X : Int) (A : Option Addr) (len cap : Nat) (w : World) (hX : 0 ≤ X) (hX1 : X ≤ 18446744073709551615) (hA : ArgO w A len cap) (hdb : DB w) (hw0 : 0 < w.heap.size) :
    Calls Tryd.prog 6 #[.int .i64 n, .slice A len cap, .int .u64 X] w (LawPost w) := by
  obtain ⟨hlen0, hl⟩ := hA
  obtain ⟨xX, hxX⟩ : ∃ xX : Nat, X = (xX : Int) := ⟨X.toNat, by omega⟩
  have HXE := Lib.hid hxX
  clear hxX
  have HWK := Lib.hid (fun W (hW : Below w.heap.size w W) => works_any W (hdb.same (hW.block 0 hw0)) (Nat.lt_of_lt_of_le hw0 hW.size))
  have HDB := Lib.hid hdb
  clear hdb
  by_cases hv : 96 < n ∨ (120 : Int) < (len : Int)
  · have HV := Lib.hid (fun W => vast_yes n A len cap W hv)
    clear hv
    go_enter Tryd.func6, Tryd.ntmps6
    go_wp2_with (first
      | (go_at_call 25; refine (HV.out _).mono ?_; rintro e w1 ⟨rfl, rfl⟩)
      | (go_at_call 24; refine (HWK.out _ (Below.refl _ _)).mono ?_; rintro e w2 ⟨rfl, hb2⟩)
      | fail)
    go_ret
    exact ⟨rfl, hb2⟩
  have hn96 : n ≤ 96 := by omega
  have hk120 : (len : Int) ≤ 120 := by omega
  have HV := Lib.hid (fun W => vast_no n A len cap W hn96 hk120)
  clear hv
  by_cases hn1 : n < 1
  · have HBH := Lib.hid (behind_bad n A len cap w hn1 (by omega))
    clear hn1
    go_enter Tryd.func6, Tryd.ntmps6
    go_wp2_with (first
      | (go_at_call 25; refine (HV.out _).mono ?_; rintro e w1 ⟨rfl, rfl⟩)
      | (go_at_call 26; refine (HBH.out).mono ?_; rintro e w1 ⟨rfl, hb1⟩)
      | (go_at_call 24; refine (HWK.out _ hb1).mono ?_; rintro e w2 ⟨rfl, hb2⟩)
      | fail)
    go_ret
    exact ⟨rfl, hb1.trans (hb2.mono hb1.size)⟩
  obtain ⟨l, hsl⟩ := hl (by omega)
  obtain ⟨n, rfl⟩ : ∃ m : Nat, n = (m : Int) := ⟨n.toNat, by omega⟩
  have HBH := Lib.hid (behind_any n len cap A l w (by omega) (by omega) hsl (by omega) HDB.out (by omega))
  clear hsl hl hn1
  go_enter Tryd.func6, Tryd.ntmps6
  go_upto_region 6 with (first
    | (go_at_call 25; refine (HV.out _).mono ?_; rintro e w1 ⟨rfl, rfl⟩)
    | (go_at_call 26; refine (HBH.out).mono ?_; rintro e w1 ⟨B, o, a, c, fs, m, t, S, s, H, cap', rfl, hrun, hfine, hb1, hB⟩; have HRUN := Lib.hid hrun; have HB1 := Lib.hid hb1; clear hrun hb1)
    | fail)
  obtain ⟨l1, l2, l3, l4, l5⟩ := HRUN.out.lts
  have hO1 := HRUN.out.own.self
  have o2 : w1.cell? ⟨o, 2, none⟩ = some (.pointer (some ⟨t, 0, none⟩)) := one_block hO1 2
  obtain ⟨N, hN⟩ : ∃ N : Nat, N = 512 := ⟨_, rfl⟩
  obtain ⟨W, hW⟩ : ∃ W : Nat → Nat, ∀ f, W f = cntTo (fun i => word (s.p.dat f) i != 0) N := ⟨_, fun _ => rfl⟩
  have hok := words_ok hfine hN hW
  have hnodc := tnodes_any t c a 0 w1 S s.p s.T _ 0 HRUN.out.own.cache.pool HRUN.out.own.tab hfine.good hfine.root
  obtain ⟨ls, hls⟩ : ∃ ls, ls = (s.T.evs 4 0).flatMap Ev.ls := ⟨_, rfl⟩
  obtain ⟨ns, hns⟩ : ∃ ns, ns = (s.T.evs 4 0).flatMap Ev.ns := ⟨_, rfl⟩
  rw [← hls, ← hns] at hok
  rw [← hns] at hnodc
  have HNODC := Lib.hid hnodc
  have HLS := Lib.hid hls
  have HOK := Lib.hid hok
  have HN := Lib.hid hN
  clear hO1 hnodc hls hns hok hN hW
  go_upto_region 7 with (first
    | (go_at_call 22; refine (HNODC.out).mono ?_; rintro e w2 ⟨A2, c2, rfl, hown2, hb2⟩; have HR2 := Lib.hid hown2; have HB2 := Lib.hid hb2; clear hown2 hb2)
    | fail)
  have hrun2 := HRUN.out.below HB2.out
  have hO2 := hrun2.own.self
  have o2' : w2.cell? ⟨o, 2, none⟩ = some (.pointer (some ⟨t, 0, none⟩)) := one_block hO2 2
  have hallc := tall_any t c a 0 w2 S s.p s.T _ 0 hrun2.own.cache.pool hrun2.own.tab hfine.good hfine.root
  rw [← HLS.out] at hallc
  have HALLC := Lib.hid hallc
  have HRUN2 := Lib.hid hrun2
  clear hO2 hrun2 o2 hallc
  go_upto_region 8 with (first
    | (go_at_call 21; refine (HALLC.out).mono ?_; rintro e w3 ⟨A1, c1, rfl, hown1, hb3⟩; have HR1 := Lib.hid hown1; have HB3 := Lib.hid hb3; clear hown1 hb3)
    | fail)
  have hz2 := HB2.out.size
  have hz3 := HB3.out.size
  have hrun3 := HRUN2.out.below HB3.out
  have hall3 : Below w.heap.size w w3 := HB1.out.trans ((HB2.out.trans (HB3.out.mono hz2)).mono HB1.out.size)
  have hfst := HOK.out.first
  have hfew := HOK.out.few
  have hr2 : OwnN w3 w1.heap.size A2 c2 ns := HR2.out.kept HB3.out
  obtain ⟨gN, hgN⟩ : ∃ gN, A2 = some ⟨gN, 0, none⟩ := by
    rcases hr2.form with ⟨_, h2, _⟩ | ⟨g, h2, _⟩
    · rw [h2] at hfst; cases hfst
    · exact ⟨g, h2⟩
  subst hgN
  have hnl : 0 < ns.length := (List.getElem?_eq_some_iff.1 hfst).1
  have hnz : ((ns.length : Int) == 0) = false := by rw [beq_eq_false_iff_ne]; omega
  have hgNl := hr2.formS
  have HRUN3 := Lib.hid hrun3
  have HALL3 := Lib.hid hall3
  have HROW2 := Lib.hid hr2
  have HROW1 := Lib.hid HR1.out
  have hol : o < w3.heap.size := hrun3.lts.1
  have hkeep : ∀ V, Below w3.heap.size w3 V → V.cell? ⟨o, 0, none⟩ = some (.pointer (some ⟨a, 0, none⟩)) ∧ V.cell? ⟨gN, 0, none⟩ = some (.int .i64 ((0 : Nat) : Int)) := fun V hV =>
    ⟨(hV.cell (p := ⟨o, 0, none⟩) hol).trans (one_block hrun3.own.self 0), (hr2.kept hV).elem hfst⟩
  have HKEEP := Lib.hid hkeep
  have htree := hfine.good.tree hfine.root
  have hled := fun (V : World) (hV : Below w3.heap.size w3 V) (xa : Nat) (hxa : xa < 281474976710656) => led_any a 0 xa V S s.p s.T (hrun3.own.cache.pool.below hV) htree hxa
  have HLED := Lib.hid hled
  have HTREE := Lib.hid htree
  clear hrun3 hall3 hr2 hfst hkeep hled htree o2' HR1 HR2
  go_wp2_with fail
  go_loopw [11] (fun i wr => ∃ k : Nat, i = .int .i64 (k : Int) ∧ k ≤ ls.length ∧ Below w3.heap.size w3 wr) (fun i _ => ls.length - (intOf i).toNat)
  case atStart => exact ⟨0, rfl, Nat.zero_le _, Below.refl _ _⟩
  case round =>
    obtain ⟨k, rfl, hk, hbr⟩ := hrel
    by_cases hlt : k < ls.length
    · obtain ⟨x, hx⟩ : ∃ x, ls[k]? = some x := ⟨ls[k], List.getElem?_eq_getElem hlt⟩
      obtain ⟨gL, hgL⟩ : ∃ gL, A1 = some ⟨gL, 0, none⟩ := by
        rcases HROW1.out.form with ⟨_, h2, _⟩ | ⟨g, h2, _⟩
        · rw [h2] at hlt; cases hlt
        · exact ⟨g, h2⟩
      subst hgL
      obtain ⟨hx1, hx2⟩ := HOK.out.leaf x (List.mem_of_getElem? hx)
      have hcells := fun (V : World) (hV : Below w3.heap.size w3 V) => (HROW1.out.kept hV).elem hx
      obtain ⟨pg, lf⟩ := x
      simp only at hx1 hx2 hcells
      obtain ⟨xa, hxa⟩ : ∃ xa, xa = pg * 4096 := ⟨_, rfl⟩
      rw [← hxa] at hcells
      have hdr : Below wr.heap.size wr wr.drew := (Below.refl _ _).drew
      have hbd := hbr.trans (hdr.mono hbr.size)
      have hcall : ∀ V, Below w3.heap.size w3 V → Calls Tryd.prog 31 #[.pointer (some ⟨a, 0, none⟩), .int .i64 0, .int .u64 (xa : Int)] V fun e w' => e = .returned (.tuple #[.agg #[.int .i64 (lf.frame : Int), .int .u8 (lf.prot : Int), .bool lf.copy], .bool true]) ∧ Hid (Below w3.heap.size w3 w') ∧ Hid (Below V.heap.size V w') ∧ (w'.cell? ⟨o, 0, none⟩ = some (.pointer (some ⟨a, 0, none⟩)) ∧ w'.cell? ⟨gN, 0, none⟩ = some (.int .i64 0) ∧ w'.cell? ⟨gL, k * 4, none⟩ = some (.int .u64 (xa : Int))) := by
        intro V hV
        refine (HLED.out V hV xa (by omega)).mono ?_
        rintro e w' ⟨he, hb⟩
        rw [show xa / 4096 = pg from by omega, hx1] at he
        have hb' := hV.trans (hb.mono hV.size)
        exact ⟨he, Lib.hid hb', Lib.hid hb, (HKEEP.out _ hb').1, (HKEEP.out _ hb').2, (hcells _ hb').1⟩
      have hbd2 : Below w3.heap.size w3 (wr.alloc (.cells #[.int .i64 0, .int .u8 0, .bool false] 40)).drew := hbr.trans ((((Below.refl _ _).alloc (Nat.le_refl _) _).drew).mono hbr.size)
      have hbox : (wr.alloc (.cells #[.int .i64 0, .int .u8 0, .bool false] 40)).drew.heap[wr.heap.size]? = some (.cells #[.int .i64 0, .int .u8 0, .bool false] 40 (0, 0)) := heap_alloc_new wr _
      have hboxl : wr.heap.size < (wr.alloc (.cells #[.int .i64 0, .int .u8 0, .bool false] 40)).drew.heap.size := (Array.getElem?_eq_some_iff.1 hbox).1
      have HBOX := Lib.hid hbox
      have hzr := hbr.size
      have hno : o ≠ wr.heap.size := by omega
      have hng : gN ≠ wr.heap.size := by have := hgNl.2.1; omega
      have hnL : gL ≠ wr.heap.size := by have := HROW1.out.formS.2.1; omega
      obtain ⟨q0, q1⟩ := HKEEP.out _ hbr
      obtain ⟨q2, q3, q4, q5⟩ := hcells _ hbr
      have hkl : (k : Int) < (ls.length : Int) := by omega
      have hc1 := HROW1.out.formS.2.2
      have HC := Lib.hid hcall
      have HCELLS := Lib.hid hcells
      have HX1 := Lib.hid hx1
      clear hcall hcells hx hx1 hxa hdr hbox
      go_upto_region 13 with (fail)
      go_region_held3 (fun w' => w'.cell? ⟨o, 0, none⟩ = some (.pointer (some ⟨a, 0, none⟩)) ∧ w'.cell? ⟨gN, 0, none⟩ = some (.int .i64 0) ∧ w'.cell? ⟨gL, k * 4, none⟩ = some (.int .u64 (xa : Int)))
        ((first | go_keep | (simp [*]; done) | exact ⟨leaf_far r1 hno, leaf_far r2 hng, leaf_far r3 hnL⟩ | exact ⟨r1, r2, r3⟩))
        ((first
          | (go_at_call 31; refine (HC.out _ hbd).mono ?_; rintro e w4 ⟨rfl, HB4, HBV, ⟨r1, r2, r3⟩⟩)
          | (go_at_call 31; refine (HC.out _ hbd2).mono ?_; rintro e w4 ⟨rfl, HB4, HBV, ⟨r1, r2, r3⟩⟩; have hbx := (HBV.out.block wr.heap.size hboxl).trans HBOX.out; have HBX := Lib.hid hbx; have x0 : w4.cell? ⟨wr.heap.size, 0, none⟩ = some (.int .i64 0) := one_block hbx 0; have x1 : w4.cell? ⟨wr.heap.size, 1, none⟩ = some (.int .u8 0) := one_block hbx 1; have x2 : w4.cell? ⟨wr.heap.size, 2, none⟩ = some (.bool false) := one_block hbx 2; have u0 := one_free hbx 0; have u1 := one_free hbx 1; have u2 := one_free hbx 2; clear hbx)))
      all_goals first
      | (obtain ⟨w5, hw5⟩ : ∃ w5, w5 = w4.alloc (.cells #[.int .i64 (lf.frame : Int), .int .u8 (lf.prot : Int), .bool lf.copy] 40) := ⟨_, rfl⟩
         rw [← hw5]
         skip)
      | (obtain ⟨w5, hw5⟩ : ∃ w5, w5 = ((w4.setCell ⟨wr.heap.size, 0, none⟩ (.int .i64 (lf.frame : Int))).setCell ⟨wr.heap.size, 1, none⟩ (.int .u8 (lf.prot : Int))).setCell ⟨wr.heap.size, 2, none⟩ (.bool lf.copy) := ⟨_, rfl⟩
         rw [← hw5]
         skip)
      · have hb5 : Below w3.heap.size w3 w5 := (by rw [hw5]; exact HB4.out.alloc HB4.out.size _)
        have hx5 : w5.heap[w4.heap.size]? = some (.cells #[.int .i64 (lf.frame : Int), .int .u8 (lf.prot : Int), .bool lf.copy] 40 (0, 0)) := (by rw [hw5]; exact heap_alloc_new _ _)
        have HB5 := Lib.hid hb5
        obtain ⟨_, n1, n2, n3⟩ := HCELLS.out _ hb5
        have d0 : ∀ d os, (grow (redrawn w5 d) os).cell? ⟨w4.heap.size, 0, none⟩ = some (.int .i64 (lf.frame : Int)) := fun d os => cell_regrown (one_block hx5 0) d os
        have d1 : ∀ d os, (grow (redrawn w5 d) os).cell? ⟨w4.heap.size, 1, none⟩ = some (.int .u8 (lf.prot : Int)) := fun d os => cell_regrown (one_block hx5 1) d os
        have d2 : ∀ d os, (grow (redrawn w5 d) os).cell? ⟨w4.heap.size, 2, none⟩ = some (.bool lf.copy) := fun d os => cell_regrown (one_block hx5 2) d os
        have d3 : ∀ d os, (grow (redrawn w5 d) os).cell? ⟨gL, k * 4 + 1, none⟩ = some (.int .i64 (lf.frame : Int)) := fun d os => cell_regrown n1 d os
        have d4 : ∀ d os, (grow (redrawn w5 d) os).cell? ⟨gL, k * 4 + 2, none⟩ = some (.int .u8 (lf.prot : Int)) := fun d os => cell_regrown n2 d os
        have d5 : ∀ d os, (grow (redrawn w5 d) os).cell? ⟨gL, k * 4 + 3, none⟩ = some (.bool lf.copy) := fun d os => cell_regrown n3 d os
        clear hb5 hx5 n1 n2 n3 q0 q1 q2 q3 q4 q5 r1 r2 r3 hw5
        go_upto_region 14 with (fail)
        refine wp_region_quiet_below (by kernel_rfl) (by kernel_rfl) ?_; (repeat (go_big_quiet_step ((fail)))); refine wpQuiet_nil ?_; intro _ hw'; obtain ⟨⟨dq, osq⟩, hw''⟩ := hw'; subst hw''; have hbq := below_regrown (w5) dq osq; generalize grow (redrawn (w5) dq) osq = wq at hbq ⊢
        go_wp2_with fail
        go_roundw
        case rel => exact ⟨k + 1, by go_num, by omega, HB5.out.trans (hbq.mono HB5.out.size)⟩
        case measure => (simp [intOf]; omega)
      · have hb5 : Below w3.heap.size w3 w5 := (by rw [hw5]; exact ((HB4.out.setCell (p := ⟨wr.heap.size, 0, none⟩) hzr _).setCell (p := ⟨wr.heap.size, 1, none⟩) hzr _).setCell (p := ⟨wr.heap.size, 2, none⟩) hzr _)
        have hx5 : w5.heap[wr.heap.size]? = some (.cells #[.int .i64 (lf.frame : Int), .int .u8 (lf.prot : Int), .bool lf.copy] 40 (0, 0)) := (by rw [hw5]; exact leaf_set HBX.out)
        have HB5 := Lib.hid hb5
        obtain ⟨_, n1, n2, n3⟩ := HCELLS.out _ hb5
        have d0 : ∀ d os, (grow (redrawn w5 d) os).cell? ⟨wr.heap.size, 0, none⟩ = some (.int .i64 (lf.frame : Int)) := fun d os => cell_regrown (one_block hx5 0) d os
        have d1 : ∀ d os, (grow (redrawn w5 d) os).cell? ⟨wr.heap.size, 1, none⟩ = some (.int .u8 (lf.prot : Int)) := fun d os => cell_regrown (one_block hx5 1) d os
        have d2 : ∀ d os, (grow (redrawn w5 d) os).cell? ⟨wr.heap.size, 2, none⟩ = some (.bool lf.copy) := fun d os => cell_regrown (one_block hx5 2) d os
        have d3 : ∀ d os, (grow (redrawn w5 d) os).cell? ⟨gL, k * 4 + 1, none⟩ = some (.int .i64 (lf.frame : Int)) := fun d os => cell_regrown n1 d os
        have d4 : ∀ d os, (grow (redrawn w5 d) os).cell? ⟨gL, k * 4 + 2, none⟩ = some (.int .u8 (lf.prot : Int)) := fun d os => cell_regrown n2 d os
        have d5 : ∀ d os, (grow (redrawn w5 d) os).cell? ⟨gL, k * 4 + 3, none⟩ = some (.bool lf.copy) := fun d os => cell_regrown n3 d os
        clear hb5 hx5 n1 n2 n3 q0 q1 q2 q3 q4 q5 r1 r2 r3 hw5
        go_upto_region 14 with (fail)
        refine wp_region_quiet_below (by kernel_rfl) (by kernel_rfl) ?_; (repeat (go_big_quiet_step ((fail)))); refine wpQuiet_nil ?_; intro _ hw'; obtain ⟨⟨dq, osq⟩, hw''⟩ := hw'; subst hw''; have hbq := below_regrown (w5) dq osq; generalize grow (redrawn (w5) dq) osq = wq at hbq ⊢
        go_wp2_with fail
        go_roundw
        case rel => exact ⟨k + 1, by go_num, by omega, HB5.out.trans (hbq.mono HB5.out.size)⟩
        case measure => (simp [intOf]; omega)
    · obtain rfl : k = ls.length := by omega
      have htl : t < w3.heap.size := HRUN3.out.lts.2.1
      have o2 : wr.cell? ⟨o, 2, none⟩ = some (.pointer (some ⟨t, 0, none⟩)) := (hbr.cell (p := ⟨o, 2, none⟩) hol).trans (one_block HRUN3.out.own.self 2)
      obtain ⟨⟨lf, r⟩, hlr⟩ : ∃ x : Leaf × Int, x = findRes s.T X := ⟨_, rfl⟩
      have hfind := tfind_any t c a 0 X wr S s.p s.T (HRUN3.out.own.cache.pool.below hbr) ((hbr.block t htl).trans HRUN3.out.own.tab) (by have := hbr.size; omega) HTREE.out hX
      rw [← hlr] at hfind
      have hfind' : Calls Tryd.prog 20 #[.pointer (some ⟨t, 0, none⟩), .int .u64 X] wr fun e w' => e = .returned (.tuple #[.agg #[.int .i64 (lf.frame : Int), .int .u8 (lf.prot : Int), .bool lf.copy], .int .i64 r]) ∧ Below wr.heap.size wr w' := hfind
      have HF := Lib.hid hfind'
      have HLR := Lib.hid hlr
      clear hfind hfind' hlr
      go_upto_region 17 with (first
        | (go_at_call 20; refine (HF.out).mono ?_; rintro e w4 ⟨rfl, hb4⟩)
        | fail)
      obtain ⟨w5, hw5⟩ : ∃ w5, w5 = w4.alloc (.cells #[.int .i64 (lf.frame : Int), .int .u8 (lf.prot : Int), .bool lf.copy] 40) := ⟨_, rfl⟩
      rw [← hw5]
      have hzr := hbr.size
      have hz4 := hb4.size
      have hb5 : Below w3.heap.size w3 w5 := by rw [hw5]; exact hbr.trans ((hb4.alloc hz4 _).mono hzr)
      have hx5 : w5.heap[w4.heap.size]? = some (.cells #[.int .i64 (lf.frame : Int), .int .u8 (lf.prot : Int), .bool lf.copy] 40 (0, 0)) := by rw [hw5]; exact heap_alloc_new _ _
      have HB5 := Lib.hid hb5
      have HX5 := Lib.hid hx5
      clear hw5 hb5 hx5 o2
      go_upto_if 95 with (fail)
      go_cut [] (fun wx => Below w3.heap.size w3 wx)
      case first =>
        have hx5l : w4.heap.size < w5.heap.size := (Array.getElem?_eq_some_iff.1 HX5.out).1
        by_cases hU : X < 140737488355328
        · obtain ⟨b, hlf, hrb⟩ : ∃ b : Bool, ((s.T.lf (xX / 4096)).getD noLeaf = lf ∧ (s.T.lf (xX / 4096)).isSome = b) ∧ (r == 0) = b := by
            have h9 := HLR.out
            unfold findRes at h9
            rw [if_neg (by omega), HXE.out, Int.toNat_natCast] at h9
            cases hc : s.T.lf (xX / 4096) with
            | none => rw [hc] at h9; injection h9 with h8 h7; exact ⟨false, ⟨h8.symm, rfl⟩, by rw [h7]; rfl⟩
            | some y => rw [hc] at h9; injection h9 with h8 h7; exact ⟨true, ⟨h8.symm, rfl⟩, by rw [h7]; rfl⟩
          have hcall : ∀ V, Below w3.heap.size w3 V → Calls Tryd.prog 31 #[.pointer (some ⟨a, 0, none⟩), .int .i64 0, .int .u64 X] V fun e w' => e = .returned (.tuple #[.agg #[.int .i64 (lf.frame : Int), .int .u8 (lf.prot : Int), .bool lf.copy], .bool b]) ∧ Hid (Below w3.heap.size w3 w') ∧ Hid (Below V.heap.size V w') ∧ (w'.cell? ⟨o, 0, none⟩ = some (.pointer (some ⟨a, 0, none⟩)) ∧ w'.cell? ⟨gN, 0, none⟩ = some (.int .i64 0)) := by
            intro V hV
            have hXE := HXE.out
            rw [hXE]
            refine (HLED.out V hV xX (by omega)).mono ?_
            rintro e w' ⟨he, hb⟩
            rw [hlf.1, hlf.2] at he
            have hb' := hV.trans (hb.mono hV.size)
            exact ⟨he, Lib.hid hb', Lib.hid hb, (HKEEP.out _ hb').1, (HKEEP.out _ hb').2⟩
          have hbd : Below w3.heap.size w3 w5.drew := HB5.out.trans (((Below.refl _ _).drew).mono HB5.out.size)
          have hbd2 : Below w3.heap.size w3 (w5.alloc (.cells #[.int .i64 0, .int .u8 0, .bool false] 40)).drew := HB5.out.trans ((((Below.refl _ _).alloc (Nat.le_refl _) _).drew).mono HB5.out.size)
          have hbox : (w5.alloc (.cells #[.int .i64 0, .int .u8 0, .bool false] 40)).drew.heap[w5.heap.size]? = some (.cells #[.int .i64 0, .int .u8 0, .bool false] 40 (0, 0)) := heap_alloc_new w5 _
          have hboxl : w5.heap.size < (w5.alloc (.cells #[.int .i64 0, .int .u8 0, .bool false] 40)).drew.heap.size := (Array.getElem?_eq_some_iff.1 hbox).1
          have hold : ∀ b, b < w5.heap.size → (w5.alloc (.cells #[.int .i64 0, .int .u8 0, .bool false] 40)).drew.heap[b]? = w5.heap[b]? := fun b hb => (((Below.refl _ _).alloc (Nat.le_refl _) _).drew).block b hb
          have hz5 := HB5.out.size
          have hno : o ≠ w5.heap.size := by omega
          have hng : gN ≠ w5.heap.size := by have := hgNl.2.1; omega
          obtain ⟨q0, q1⟩ := HKEEP.out _ HB5.out
          have HBOX := Lib.hid hbox
          have HOLD := Lib.hid hold
          have HC := Lib.hid hcall
          have HLF := Lib.hid hlf
          clear hcall hbox hold hlf
          go_upto_region 18 with (fail)
          go_region_held3 (fun w' => w'.cell? ⟨o, 0, none⟩ = some (.pointer (some ⟨a, 0, none⟩)) ∧ w'.cell? ⟨gN, 0, none⟩ = some (.int .i64 0))
            ((first | go_keep | (simp [*]; done) | exact ⟨leaf_far r1 hno, leaf_far r2 hng⟩ | exact ⟨r1, r2⟩))
            ((first
              | (go_at_call 31; refine (HC.out _ hbd).mono ?_; rintro e w8 ⟨rfl, HB8, HBV, ⟨r1, r2⟩⟩)
              | (go_at_call 31; refine (HC.out _ hbd2).mono ?_; rintro e w8 ⟨rfl, HB8, HBV, ⟨r1, r2⟩⟩; have hbx := (HBV.out.block w5.heap.size hboxl).trans HBOX.out; have HBX := Lib.hid hbx; have x0 : w8.cell? ⟨w5.heap.size, 0, none⟩ = some (.int .i64 0) := one_block hbx 0; have x1 : w8.cell? ⟨w5.heap.size, 1, none⟩ = some (.int .u8 0) := one_block hbx 1; have x2 : w8.cell? ⟨w5.heap.size, 2, none⟩ = some (.bool false) := one_block hbx 2; have u0 := one_free hbx 0; have u1 := one_free hbx 1; have u2 := one_free hbx 2; clear hbx)))
          all_goals first
          | (obtain ⟨w6, hw6⟩ : ∃ w6, w6 = w8.alloc (.cells #[.int .i64 (lf.frame : Int), .int .u8 (lf.prot : Int), .bool lf.copy] 40) := ⟨_, rfl⟩
             rw [← hw6]
             skip)
          | (obtain ⟨w6, hw6⟩ : ∃ w6, w6 = ((w8.setCell ⟨w5.heap.size, 0, none⟩ (.int .i64 (lf.frame : Int))).setCell ⟨w5.heap.size, 1, none⟩ (.int .u8 (lf.prot : Int))).setCell ⟨w5.heap.size, 2, none⟩ (.bool lf.copy) := ⟨_, rfl⟩
             rw [← hw6]
             skip)
          · have hb6 : Below w3.heap.size w3 w6 := (by rw [hw6]; exact HB8.out.alloc HB8.out.size _)
            have hb56 : ∀ b, b < w5.heap.size → w6.heap[b]? = w5.heap[b]? := (fun b hb => by rw [hw6]; exact (Below.heap_alloc _ _ _ (Nat.lt_of_lt_of_le hb HBV.out.size)).trans (HBV.out.block b hb))
            have hx6 : w6.heap[w8.heap.size]? = some (.cells #[.int .i64 (lf.frame : Int), .int .u8 (lf.prot : Int), .bool lf.copy] 40 (0, 0)) := (by rw [hw6]; exact heap_alloc_new _ _)
            have hy6 := (hb56 w4.heap.size hx5l).trans HX5.out
            have HB6 := Lib.hid hb6
            have y0 : w6.cell? ⟨w8.heap.size, 0, none⟩ = some (.int .i64 (lf.frame : Int)) := one_block hx6 0
            have y1 : w6.cell? ⟨w8.heap.size, 1, none⟩ = some (.int .u8 (lf.prot : Int)) := one_block hx6 1
            have y2 : w6.cell? ⟨w8.heap.size, 2, none⟩ = some (.bool lf.copy) := one_block hx6 2
            have y3 : w6.cell? ⟨w4.heap.size, 0, none⟩ = some (.int .i64 (lf.frame : Int)) := one_block hy6 0
            have y4 : w6.cell? ⟨w4.heap.size, 1, none⟩ = some (.int .u8 (lf.prot : Int)) := one_block hy6 1
            have y5 : w6.cell? ⟨w4.heap.size, 2, none⟩ = some (.bool lf.copy) := one_block hy6 2
            clear hb6 hb56 hx6 hy6 q0 q1 r1 r2 hw6
            cases b
            all_goals
              go_wp2_with fail
              go_meet
              exact HB6.out
          · have hb6 : Below w3.heap.size w3 w6 := (by rw [hw6]; exact ((HB8.out.setCell (p := ⟨w5.heap.size, 0, none⟩) hz5 _).setCell (p := ⟨w5.heap.size, 1, none⟩) hz5 _).setCell (p := ⟨w5.heap.size, 2, none⟩) hz5 _)
            have hb56 : ∀ b, b < w5.heap.size → w6.heap[b]? = w5.heap[b]? := (fun b hb => by rw [hw6]; exact (leaf_mod w8 w5.heap.size _ _ _ b (by have := HBV.out.size; omega) (by omega)).trans ((HBV.out.block b (by omega)).trans (HOLD.out b hb)))
            have hx6 : w6.heap[w5.heap.size]? = some (.cells #[.int .i64 (lf.frame : Int), .int .u8 (lf.prot : Int), .bool lf.copy] 40 (0, 0)) := (by rw [hw6]; exact leaf_set HBX.out)
            have hy6 := (hb56 w4.heap.size hx5l).trans HX5.out
            have HB6 := Lib.hid hb6
            have y0 : w6.cell? ⟨w5.heap.size, 0, none⟩ = some (.int .i64 (lf.frame : Int)) := one_block hx6 0
            have y1 : w6.cell? ⟨w5.heap.size, 1, none⟩ = some (.int .u8 (lf.prot : Int)) := one_block hx6 1
            have y2 : w6.cell? ⟨w5.heap.size, 2, none⟩ = some (.bool lf.copy) := one_block hx6 2
            have y3 : w6.cell? ⟨w4.heap.size, 0, none⟩ = some (.int .i64 (lf.frame : Int)) := one_block hy6 0
            have y4 : w6.cell? ⟨w4.heap.size, 1, none⟩ = some (.int .u8 (lf.prot : Int)) := one_block hy6 1
            have y5 : w6.cell? ⟨w4.heap.size, 2, none⟩ = some (.bool lf.copy) := one_block hy6 2
            clear hb6 hb56 hx6 hy6 q0 q1 r1 r2 hw6
            cases b
            all_goals
              go_wp2_with fail
              go_meet
              exact HB6.out
        · have hU2 : (140737488355328 : Int) ≤ X := by omega
          clear hU
          go_wp2_with fail
          go_meet
          exact HB5.out
      case rest =>
        have hlive := HOK.out.live
        have his := HOK.out.is
        have hN := HN.out
        have hWle : ∀ f, W f ≤ 512 := fun f => by rw [his f]; exact Nat.le_trans (cntTo_le2 _ _) (Nat.le_of_eq hN)
        have hpool := fun (V : World) (hV : Below w3.heap.size w3 V) => HRUN3.out.own.cache.pool.below hV
        have HPOOL := Lib.hid hpool
        have HIS := Lib.hid his
        have HLIVE := Lib.hid hlive
        have HCUT := Lib.hid hcut
        clear his hlive hpool hcut hN
        go_wp2_with fail
        go_loopw [18, 19] (fun wd i wx => ∃ k : Nat, wd = .int .i64 ((((ns.take k).map W).sum : Nat) : Int) ∧ i = .int .i64 (k : Int) ∧ k ≤ ns.length ∧ Below w3.heap.size w3 wx) (fun _ i _ => ns.length - (intOf i).toNat)
        case atStart => exact ⟨0, rfl, rfl, Nat.zero_le _, HCUT.out⟩
        case round =>
          obtain ⟨k, rfl, rfl, hk, hbx⟩ := hrel
          have hsum : ((ns.take k).map W).sum ≤ k * 512 := Nat.le_trans (sum_le W 512 hWle (ns.take k)) (Nat.mul_le_mul_right _ (by rw [List.length_take]; omega))
          obtain ⟨wo, hwo⟩ : ∃ wo, wo = wr := ⟨_, rfl⟩
          subst hwo
          by_cases hlt : k < ns.length
          · obtain ⟨f, hf⟩ : ∃ f, ns[k]? = some f := ⟨ns[k], List.getElem?_eq_getElem hlt⟩
            obtain ⟨hfn, hf1⟩ := HLIVE.out f (List.mem_of_getElem? hf)
            obtain ⟨q, hq⟩ : ∃ q : Nat → Bool, q = fun i => word (s.p.dat f) i != 0 := ⟨_, rfl⟩
            obtain ⟨S0, hS0⟩ : ∃ S0, S0 = ((ns.take k).map W).sum := ⟨_, rfl⟩
            have hnext := sum_take_succ W hf
            rw [← hS0] at hnext hsum
            rw [HIS.out f, ← hq] at hnext
            rw [← hS0]
            have HNX := Lib.hid hnext
            have HQ := Lib.hid hq
            have HF := Lib.hid hf
            clear hnext hq hf hS0
            go_wp2_with fail
            go_loopw [18, 20] (fun wd j wy => ∃ jj : Nat, wd = .int .i64 ((S0 + cntTo q jj : Nat) : Int) ∧ j = .int .i64 (jj : Int) ∧ jj ≤ N ∧ Below w3.heap.size w3 wy) (fun _ j _ => N - (intOf j).toNat)
            case atStart => exact ⟨0, rfl, rfl, Nat.zero_le _, hbx⟩
            case round =>
              obtain ⟨jj, rfl, rfl, hjj, hby⟩ := hrel
              have hN := HN.out
              have hcl := cntTo_le2 q jj
              by_cases hjl : jj < 512
              · have d0 : ∀ d os, (grow (redrawn wr d) os).cell? ⟨o, 0, none⟩ = some (.pointer (some ⟨a, 0, none⟩)) := fun d os => cell_regrown (HKEEP.out _ hby).1 d os
                have d1 : ∀ d os, (grow (redrawn wr d) os).cell? ⟨gN, k, none⟩ = some (.int .i64 (f : Int)) := fun d os => cell_regrown ((HROW2.out.kept hby).elem HF.out) d os
                obtain ⟨x, hx⟩ : ∃ x, x = word (s.p.dat f) jj := ⟨_, rfl⟩
                have hG := fun d os => Calls.regrown_of (wordAt_any a f jj (grow (redrawn wr d) os) S s.p ((HPOOL.out _ hby).below (below_regrown wr d os)) hfn hf1 hjl)
                rw [← hx] at hG
                have HG := Lib.hid hG
                have hstep : cntTo q (jj + 1) = cntTo q jj + (if x = 0 then 0 else 1) := by
                  rw [cntTo_succ, HQ.out, hx]
                  unfold b01
                  by_cases e : word (s.p.dat f) jj = 0
                  · simp [e]
                  · simp [e]
                have HST := Lib.hid hstep
                obtain ⟨C, hC⟩ : ∃ C, C = cntTo q jj := ⟨_, rfl⟩
                rw [← hC] at hcl
                have HC := Lib.hid hC
                have hkl : (k : Int) < (ns.length : Int) := by omega
                clear hG hx hstep hN
                rw [← hC]
                clear hC
                by_cases hx0 : x = 0
                · have hxb : ((x : Int) != 0) = false := by rw [hx0]; rfl
                  have HX0 := Lib.hid hx0
                  clear hx0
                  go_upto_region 28 with (fail)
                  refine wp_region_quiet_below (by kernel_rfl) (by kernel_rfl) ?_; (repeat (go_big_quiet_step ((exact HG.out _ _)))); refine wpQuiet_nil ?_; intro _ hw'; obtain ⟨⟨dq, osq⟩, hw''⟩ := hw'; subst hw''; have hbq := below_regrown (wr) dq osq; generalize grow (redrawn (wr) dq) osq = wq at hbq ⊢
                  go_wp2_with fail
                  go_roundw
                  case rel => exact ⟨jj + 1, by rw [HST.out, if_pos HX0.out, HC.out]; rfl, by go_num, by have := HN.out; omega, hby.trans (hbq.mono hby.size)⟩
                  case measure => (have := HN.out; simp [intOf]; omega)
                · have hxb : ((x : Int) != 0) = true := by rw [bne_iff_ne]; omega
                  have HX0 := Lib.hid hx0
                  clear hx0
                  go_upto_region 28 with (fail)
                  refine wp_region_quiet_below (by kernel_rfl) (by kernel_rfl) ?_; (repeat (go_big_quiet_step ((exact HG.out _ _)))); refine wpQuiet_nil ?_; intro _ hw'; obtain ⟨⟨dq, osq⟩, hw''⟩ := hw'; subst hw''; have hbq := below_regrown (wr) dq osq; generalize grow (redrawn (wr) dq) osq = wq at hbq ⊢
                  go_wp2_with fail
                  go_roundw
                  case rel => exact ⟨jj + 1, by rw [HST.out, if_neg HX0.out, ← HC.out]; go_num, by go_num, by have := HN.out; omega, hby.trans (hbq.mono hby.size)⟩
                  case measure => (have := HN.out; simp [intOf]; omega)
              · obtain rfl : jj = N := by omega
                have hge : (512 : Int) ≤ (jj : Int) := by omega
                clear hN
                go_wp2_with fail
                go_roundw
                case rel => exact ⟨k + 1, by rw [HNX.out], by go_num, by omega, hby⟩
                case measure => (simp [intOf]; omega)
          · obtain rfl : k = ns.length := by omega
            have hsm := HOK.out.sum
            rw [List.take_length]
            rw [List.take_length] at hsum
            obtain ⟨S0, hS0⟩ : ∃ S0, S0 = (ns.map W).sum := ⟨_, rfl⟩
            rw [← hS0] at hsm hsum ⊢
            have HSM := Lib.hid hsm
            clear hsm hS0
            go_wp2_with fail
            go_ret
            exact ⟨ret_bool (a := ((S0 : Int) == (ns.length : Int) - 1 + (ls.length : Int))) (by rw [beq_iff_eq]; have := HSM.out; omega), HALL3.out.trans (hbx.mono HALL3.out.size)⟩

end Go.Proofs.YtmkgdgfbdmjeeaaDoor
