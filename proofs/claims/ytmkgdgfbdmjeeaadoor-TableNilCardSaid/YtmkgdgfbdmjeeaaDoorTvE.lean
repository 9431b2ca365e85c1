/- Tables: the functions that All, Nodes and Free hand to visit. Tables: Nodes, All. Tables: Free. -/
import Derived.Test.YtmkgdgfbdmjeeaaDoorTvB
import Derived.Test.YtmkgdgfbdmjeeaaDoorTvC

namespace Go.Proofs.YtmkgdgfbdmjeeaaDoor
open Go.RowKit
set_option linter.unusedSimpArgs false
set_option linter.unusedVariables false

theorem flatMap_few {α : Type} {F : Ev → List α} (hF : ∀ e, (F e).length ≤ 1) (l : List Ev) : (l.flatMap F).length ≤ l.length := by
  induction l with
  | nil => simp
  | cons e l ih => rw [List.flatMap_cons, List.length_append, List.length_cons]; have := hF e; omega

theorem app_put {w : World} {ops : Array Oper} {rest : List Oper} {o : Oper} {a : Act} {Q : Exit → Act → World → Prop} (hgd : o.guard = none) (s x : Operand)
    (ho : o.op = .call { callee := .builtin .append, args := #[s, x], argTypes := #[44, 44] })
    (base : Nat) (A : Option Addr) (cap : Nat) (l : List (Nat × Leaf)) (hs : a.eval s = .slice A l.length cap) (hown : OwnP w base A cap l)
    (r : Nat × Leaf) (b c : Nat) (hx : a.eval x = .slice (some ⟨b, 0, none⟩) 1 c) (hb : w.heap[b]? = some (.cells #[.int .u64 ((r.1 * 4096 : Nat) : Int), .int .i64 (r.2.frame : Int), .int .u8 (r.2.prot : Int), .bool r.2.copy] 61 (0, 0)))
    (hfew : l.length < 1000000) (hbase : base ≤ w.heap.size)
    (h : ∀ g cap' w', OwnP w' base (some ⟨g, 0, none⟩) cap' (l ++ [r]) → w.grownBy w' (A.map (·.block)) → (A.map (·.block) = some g ∨ g = w.heap.size) → g < w'.heap.size → wpList Tryd.prog ops Q rest (a.put o.dst (.slice (some ⟨g, 0, none⟩) (l.length + 1) cap')) w') :
    wpList Tryd.prog ops Q (o :: rest) a w := by
  obtain ⟨i0, hi0, hz0, hz1, hz2⟩ := info_parts put_info
  refine wpList_append_lies w hgd s x 44 ho base 61 i0 _ 4 24 Tryd.underlying44 hi0 hz0 hz1 hz2 rfl (by omega) _ l.length (l.flatMap pc) hs hown ⟨b, 0, none⟩ 1 c (pc r) hx rfl (World.news_of_block (cs := #[.int .u64 ((r.1 * 4096 : Nat) : Int), .int .i64 (r.2.frame : Int), .int .u8 (r.2.prot : Int), .bool r.2.copy]) hb)
    (by simp [pc, Value.oneCell']) (by omega) (by unfold maxLen; omega) (by omega) hbase w.heap.size rfl ?_
  intro g cap' w' ho' hg hat hlt
  refine h g cap' w' ?_ ?_ ?_ hlt
  · unfold OwnP
    rw [List.flatMap_append, List.length_append]
    simpa [pc] using ho'
  · cases A <;> simpa [Value.ownBlock] using hg
  · cases A <;> simpa [Value.ownBlock] using hat

theorem Pick.cell {α : Type} {l : List α} {w w0 w1 : World} {base bo n cap : Nat} {A : Option Addr} {ty : TypeId} (hF : (A = none ∧ l = [] ∧ cap = 0) ∨ ∃ g, A = some ⟨g, 0, none⟩ ∧ base ≤ g ∧ g < w.heap.size ∧ l.length ≤ cap) (hAB : ∀ g, A = some ⟨g, 0, none⟩ → g ≠ bo)
    (hB : w.heap[bo]? = some (.cells #[.slice A n cap] ty (0, 0))) (hb : Below w.heap.size w w0) (hg : w0.grownBy w1 (A.map (·.block))) : w1.heap[bo]? = some (.cells #[.slice A n cap] ty (0, 0)) := by
  have hbw := (Array.getElem?_eq_some_iff.1 hB).1
  refine (hg.block bo (Nat.lt_of_lt_of_le hbw hb.size) fun e => ?_).trans ((hb.block bo hbw).trans hB)
  rcases hF with ⟨e', _⟩ | ⟨g', e', _, _, _⟩
  · rw [e'] at e; cases e
  · rw [e'] at e
    exact hAB g' e' (by simpa using e.symm)
theorem one_set {w : World} {b : Nat} {x y : Value} {t : TypeId} (h : w.heap[b]? = some (.cells #[x] t (0, 0))) : (w.setCell ⟨b, 0, none⟩ y).heap[b]? = some (.cells #[y] t (0, 0)) := by
  have h1 := Joins.block_setCell (i := 0) h y
  simpa using h1

/-- What the functions of a visit take for given. -/
structure PickOk (S : Nat → Prop) (t base bo : Nat) : Prop where
  low : ∀ b, S b → b < base
  tab : t < base
  pos : 0 < base
  box : base ≤ bo

set_option maxHeartbeats 1000000 in
theorem nodes1_any (base bo t : Nat) (S : Nat → Prop) (hp : PickOk S t base bo) (w : World) (l : List Ev) (X : Nat → Prop) (f : Nat)
    (hv : VisOk (Pick OwnN 34 Ev.ns base bo) S t w l X) (hfew : l.length < 1000000) :
    Calls Tryd.prog 72 (#[.int .i64 (f : Int)] ++ #[.pointer (some ⟨bo, 0, none⟩)]) w (VisPost w X (Pick OwnN 34 Ev.ns base bo) S t (l ++ [.node f])) := by
  obtain ⟨A, cap, hO, hB, hAb, hX⟩ := hv.rel
  have hlen := flatMap_few (F := Ev.ns) (fun e => by cases e <;> simp [Ev.ns]) l
  have hform := rowLikeN.form hO
  have hbw : bo < w.heap.size := (Array.getElem?_eq_some_iff.1 hB).1
  have c0 : w.cell? ⟨bo, 0, none⟩ = some (.slice A (l.flatMap Ev.ns).length cap) := one_block hB 0
  have f0 : w.frozen? ⟨bo, 0, none⟩ = false := one_free hB 0
  obtain ⟨L, hL⟩ : ∃ L, L = l.flatMap Ev.ns := ⟨_, rfl⟩
  rw [← hL] at hlen c0
  have HV := Lib.hid hv
  have HO := Lib.hid hO
  have HB := Lib.hid hB
  have HX := Lib.hid hX
  have HAB := Lib.hid hAb
  have HF := Lib.hid hform
  have HL := Lib.hid hL
  clear hv hO hB hX hAb hform hL
  have hbox := hp.box
  have hbe := Lib.hid ((Below.refl w.heap.size w).alloc (Nat.le_refl _) (.cells #[.int .i64 (f : Int)] 3))
  go_enter Tryd.func72, Tryd.ntmps72
  go_wp2_with (first
    | (at_builtin; refine app_int rfl (.tmp 3) (.tmp 5) rfl base A cap L rfl ((HL.out ▸ HO.out : OwnN w base A cap L).alloc _) f w.heap.size 1 rfl (heap_alloc_new _ _) (by omega) (by simp; omega) ?_; intro g cap' w1 ho hg hat hlt; have hB2 := Pick.cell HF.out HAB.out HB.out hbe.out hg; rw [← HL.out] at hB2; have c1 : w1.cell? ⟨bo, 0, none⟩ = some (.slice A L.length cap) := one_block hB2 0; have f1 : w1.frozen? ⟨bo, 0, none⟩ = false := one_free hB2 0; have HO1 := Lib.hid ho; have HG := Lib.hid hg; have HAT := Lib.hid hat; have HB2 := Lib.hid hB2; clear ho hg hat hB2)
    | fail)
  go_end0
  exact Pick.more rowLikeN HV.out (x := f) rfl HX.out HO.out hbe.out HG.out HAT.out hlt (HL.out ▸ HO1.out) HAB.out hbw hp.low hp.tab hp.pos (by rw [List.length_append, ← HL.out]; exact one_set HB2.out) (mod_set (S := fun b => b = bo) (b := bo) rfl 0 _) (by simp)

theorem nodes2_any (ty : TypeId) (base bo t : Nat) (S : Nat → Prop) (w : World) (l : List Ev) (X : Nat → Prop) (pg : Nat) (y : Leaf) (hv : VisOk (Pick OwnN ty Ev.ns base bo) S t w l X) :
    Calls Tryd.prog 73 (#[.int .u64 ((pg * 4096 : Nat) : Int), .agg #[.int .i64 (y.frame : Int), .int .u8 (y.prot : Int), .bool y.copy]] ++ #[]) w (VisPost w X (Pick OwnN ty Ev.ns base bo) S t (l ++ [.leaf pg y])) := by
  have hb := (Below.refl w.heap.size w).alloc (Nat.le_refl _) (.cells #[.int .i64 (y.frame : Int), .int .u8 (y.prot : Int), .bool y.copy] 40)
  have hp := (Pick.pass (VisOk.below hv (Pick.stays rowLikeN) hb) (e := .leaf pg y) rfl).2
  have HP := Lib.hid hp
  have HB := Lib.hid hb
  clear hv hp hb
  go_enter Tryd.func73, Tryd.ntmps73
  go_wp2_with fail
  go_end0
  obtain ⟨X', h1, h2, h3⟩ := HP.out
  exact ⟨rfl, X', h1, (Mod.of HB.out).trans (Out.refl _ _) h2, (Out.refl _ _).trans (fun b hb => (h3 b hb).imp id (fun h => Nat.le_trans HB.out.size h)) (Nat.le_refl _)⟩

theorem all1_any (ty : TypeId) (base bo t : Nat) (S : Nat → Prop) (w : World) (l : List Ev) (X : Nat → Prop) (f : Nat) (hv : VisOk (Pick OwnP ty Ev.ls base bo) S t w l X) :
    Calls Tryd.prog 70 (#[.int .i64 (f : Int)] ++ #[]) w (VisPost w X (Pick OwnP ty Ev.ls base bo) S t (l ++ [.node f])) := by
  have hp := Pick.pass hv (e := .node f) rfl
  have HP := Lib.hid hp
  clear hv hp
  go_enter Tryd.func70, Tryd.ntmps70
  go_wp2_with fail
  go_end0
  exact HP.out

set_option maxHeartbeats 1000000 in
theorem free1_any (base bo t : Nat) (S : Nat → Prop) (hp : PickOk S t base bo) (w : World) (l : List Ev) (X : Nat → Prop) (f : Nat)
    (hv : VisOk (Pick OwnN 34 Ev.fs base bo) S t w l X) (hfew : l.length < 1000000) :
    Calls Tryd.prog 56 (#[.int .i64 (f : Int)] ++ #[.pointer (some ⟨bo, 0, none⟩)]) w (VisPost w X (Pick OwnN 34 Ev.fs base bo) S t (l ++ [.node f])) := by
  obtain ⟨A, cap, hO, hB, hAb, hX⟩ := hv.rel
  have hlen := flatMap_few (F := Ev.fs) (fun e => by cases e <;> simp [Ev.fs]) l
  have hform := rowLikeN.form hO
  have hbw : bo < w.heap.size := (Array.getElem?_eq_some_iff.1 hB).1
  have c0 : w.cell? ⟨bo, 0, none⟩ = some (.slice A (l.flatMap Ev.fs).length cap) := one_block hB 0
  have f0 : w.frozen? ⟨bo, 0, none⟩ = false := one_free hB 0
  obtain ⟨L, hL⟩ : ∃ L, L = l.flatMap Ev.fs := ⟨_, rfl⟩
  rw [← hL] at hlen c0
  have HV := Lib.hid hv
  have HO := Lib.hid hO
  have HB := Lib.hid hB
  have HX := Lib.hid hX
  have HAB := Lib.hid hAb
  have HF := Lib.hid hform
  have HL := Lib.hid hL
  clear hv hO hB hX hAb hform hL
  have hbox := hp.box
  have hbe := Lib.hid ((Below.refl w.heap.size w).alloc (Nat.le_refl _) (.cells #[.int .i64 (f : Int)] 3))
  go_enter Tryd.func56, Tryd.ntmps56
  go_wp2_with (first
    | (at_builtin; refine app_int rfl (.tmp 3) (.tmp 5) rfl base A cap L rfl ((HL.out ▸ HO.out : OwnN w base A cap L).alloc _) f w.heap.size 1 rfl (heap_alloc_new _ _) (by omega) (by simp; omega) ?_; intro g cap' w1 ho hg hat hlt; have hB2 := Pick.cell HF.out HAB.out HB.out hbe.out hg; rw [← HL.out] at hB2; have c1 : w1.cell? ⟨bo, 0, none⟩ = some (.slice A L.length cap) := one_block hB2 0; have f1 : w1.frozen? ⟨bo, 0, none⟩ = false := one_free hB2 0; have HO1 := Lib.hid ho; have HG := Lib.hid hg; have HAT := Lib.hid hat; have HB2 := Lib.hid hB2; clear ho hg hat hB2)
    | fail)
  go_end0
  exact Pick.more rowLikeN HV.out (x := f) rfl HX.out HO.out hbe.out HG.out HAT.out hlt (HL.out ▸ HO1.out) HAB.out hbw hp.low hp.tab hp.pos (by rw [List.length_append, ← HL.out]; exact one_set HB2.out) (mod_set (S := fun b => b = bo) (b := bo) rfl 0 _) (by simp)

set_option maxHeartbeats 1000000 in
theorem free2_any (base bo t : Nat) (S : Nat → Prop) (hp : PickOk S t base bo) (w : World) (l : List Ev) (X : Nat → Prop) (pg : Nat) (y : Leaf)
    (hv : VisOk (Pick OwnN 34 Ev.fs base bo) S t w l X) (hfew : l.length < 1000000) :
    Calls Tryd.prog 57 (#[.int .u64 ((pg * 4096 : Nat) : Int), .agg #[.int .i64 (y.frame : Int), .int .u8 (y.prot : Int), .bool y.copy]] ++ #[.pointer (some ⟨bo, 0, none⟩)]) w (VisPost w X (Pick OwnN 34 Ev.fs base bo) S t (l ++ [.leaf pg y])) := by
  obtain ⟨A, cap, hO, hB, hAb, hX⟩ := hv.rel
  have hlen := flatMap_few (F := Ev.fs) (fun e => by cases e <;> simp [Ev.fs]) l
  have hform := rowLikeN.form hO
  have hbw : bo < w.heap.size := (Array.getElem?_eq_some_iff.1 hB).1
  have c0 : w.cell? ⟨bo, 0, none⟩ = some (.slice A (l.flatMap Ev.fs).length cap) := one_block hB 0
  have f0 : w.frozen? ⟨bo, 0, none⟩ = false := one_free hB 0
  obtain ⟨L, hL⟩ : ∃ L, L = l.flatMap Ev.fs := ⟨_, rfl⟩
  rw [← hL] at hlen c0
  have HV := Lib.hid hv
  have HO := Lib.hid hO
  have HB := Lib.hid hB
  have HX := Lib.hid hX
  have HAB := Lib.hid hAb
  have HF := Lib.hid hform
  have HL := Lib.hid hL
  clear hv hO hB hX hAb hform hL
  have hbox := hp.box
  obtain ⟨w0, hw0⟩ : ∃ w0, w0 = w.alloc (.cells #[.int .i64 (y.frame : Int), .int .u8 (y.prot : Int), .bool y.copy] 40) := ⟨_, rfl⟩
  have hb0 : Below w.heap.size w w0 := by rw [hw0]; exact (Below.refl _ _).alloc (Nat.le_refl _) _
  have hL0 : w0.heap[w.heap.size]? = some (.cells #[.int .i64 (y.frame : Int), .int .u8 (y.prot : Int), .bool y.copy] 40 (0, 0)) := by rw [hw0]; exact heap_alloc_new _ _
  have d0 : w0.cell? ⟨w.heap.size, 0, none⟩ = some (.int .i64 (y.frame : Int)) := one_block hL0 0
  have c0' : w0.cell? ⟨bo, 0, none⟩ = some (.slice A L.length cap) := (hb0.cell hbw).trans c0
  have f0' : w0.frozen? ⟨bo, 0, none⟩ = false := (hb0.frozen hbw).trans f0
  have hz0 := hb0.size
  have hbe := Lib.hid (hb0.alloc hb0.size (.cells #[.int .i64 (y.frame : Int)] 3))
  have hO0 : OwnN w0 base A cap L := (HL.out ▸ HO.out : OwnN w base A cap L).below hb0 (Nat.le_refl _)
  have HO0 := Lib.hid hO0
  have HW0 := Lib.hid hw0
  clear hw0 hO0 c0 f0 hL0 hb0
  go_enter Tryd.func57, Tryd.ntmps57
  go_upto_region 1 with (fail)
  rw [← HW0.out]
  go_wp2_with (first
    | (at_builtin; refine app_int rfl (.tmp 5) (.tmp 8) rfl base A cap L rfl (HO0.out.alloc _) y.frame w0.heap.size 1 rfl (heap_alloc_new _ _) (by omega) (by simp; omega) ?_; intro g cap' w1 ho hg hat hlt; have hB2 := Pick.cell HF.out HAB.out HB.out hbe.out hg; rw [← HL.out] at hB2; have c1 : w1.cell? ⟨bo, 0, none⟩ = some (.slice A L.length cap) := one_block hB2 0; have f1 : w1.frozen? ⟨bo, 0, none⟩ = false := one_free hB2 0; have HO1 := Lib.hid ho; have HG := Lib.hid hg; have HAT := Lib.hid hat; have HB2 := Lib.hid hB2; clear ho hg hat hB2)
    | fail)
  go_end0
  exact Pick.more rowLikeN HV.out (x := y.frame) rfl HX.out HO.out hbe.out HG.out HAT.out hlt (HL.out ▸ HO1.out) HAB.out hbw hp.low hp.tab hp.pos (by rw [List.length_append, ← HL.out]; exact one_set HB2.out) (mod_set (S := fun b => b = bo) (b := bo) rfl 0 _) (by simp)

set_option maxHeartbeats 1000000 in
theorem all2_any (base bo t : Nat) (S : Nat → Prop) (hp : PickOk S t base bo) (w : World) (l : List Ev) (X : Nat → Prop) (pg : Nat) (y : Leaf)
    (hv : VisOk (Pick OwnP 44 Ev.ls base bo) S t w l X) (hfew : l.length < 1000000) :
    Calls Tryd.prog 71 (#[.int .u64 ((pg * 4096 : Nat) : Int), .agg #[.int .i64 (y.frame : Int), .int .u8 (y.prot : Int), .bool y.copy]] ++ #[.pointer (some ⟨bo, 0, none⟩)]) w (VisPost w X (Pick OwnP 44 Ev.ls base bo) S t (l ++ [.leaf pg y])) := by
  obtain ⟨A, cap, hO, hB, hAb, hX⟩ := hv.rel
  have hlen := flatMap_few (F := Ev.ls) (fun e => by cases e <;> simp [Ev.ls]) l
  have hform := rowLikeP.form hO
  have hbw : bo < w.heap.size := (Array.getElem?_eq_some_iff.1 hB).1
  have c0 : w.cell? ⟨bo, 0, none⟩ = some (.slice A (l.flatMap Ev.ls).length cap) := one_block hB 0
  have f0 : w.frozen? ⟨bo, 0, none⟩ = false := one_free hB 0
  obtain ⟨L, hL⟩ : ∃ L, L = l.flatMap Ev.ls := ⟨_, rfl⟩
  rw [← hL] at hlen c0
  have HV := Lib.hid hv
  have HO := Lib.hid hO
  have HB := Lib.hid hB
  have HX := Lib.hid hX
  have HAB := Lib.hid hAb
  have HF := Lib.hid hform
  have HL := Lib.hid hL
  clear hv hO hB hX hAb hform hL
  have hbox := hp.box
  obtain ⟨w0, hw0⟩ : ∃ w0, w0 = w.alloc (.cells #[.int .i64 (y.frame : Int), .int .u8 (y.prot : Int), .bool y.copy] 40) := ⟨_, rfl⟩
  have hb0 : Below w.heap.size w w0 := by rw [hw0]; exact (Below.refl _ _).alloc (Nat.le_refl _) _
  have hL0 : w0.heap[w.heap.size]? = some (.cells #[.int .i64 (y.frame : Int), .int .u8 (y.prot : Int), .bool y.copy] 40 (0, 0)) := by rw [hw0]; exact heap_alloc_new _ _
  have d0 : w0.cell? ⟨w.heap.size, 0, none⟩ = some (.int .i64 (y.frame : Int)) := one_block hL0 0
  have d1 : w0.cell? ⟨w.heap.size, 1, none⟩ = some (.int .u8 (y.prot : Int)) := one_block hL0 1
  have d2 : w0.cell? ⟨w.heap.size, 2, none⟩ = some (.bool y.copy) := one_block hL0 2
  have c0' : w0.cell? ⟨bo, 0, none⟩ = some (.slice A L.length cap) := (hb0.cell hbw).trans c0
  have f0' : w0.frozen? ⟨bo, 0, none⟩ = false := (hb0.frozen hbw).trans f0
  have hz0 := hb0.size
  have hbe := Lib.hid (hb0.alloc hb0.size (.cells #[.int .u64 ((pg * 4096 : Nat) : Int), .int .i64 (y.frame : Int), .int .u8 (y.prot : Int), .bool y.copy] 61))
  have hO0 : OwnP w0 base A cap L := rowLikeP.same (HL.out ▸ HO.out : OwnP w base A cap L) (fun g hg => hb0.block g (by
    rcases HF.out with ⟨e, _⟩ | ⟨g', e, _, hlt, _⟩
    · rw [e] at hg; cases hg
    · rw [e] at hg; injection hg with hg; injection hg with hg; omega))
  have HO0 := Lib.hid hO0
  have HW0 := Lib.hid hw0
  clear hw0 hO0 c0 f0 hL0 hb0
  go_enter Tryd.func71, Tryd.ntmps71
  go_upto_region 1 with (fail)
  rw [← HW0.out]
  go_wp2_with (first
    | (at_builtin; refine app_put rfl (.tmp 5) (.tmp 9) rfl base A cap L rfl (rowLikeP.same HO0.out (fun g hg => Below.heap_alloc _ _ _ (by
        rcases rowLikeP.form HO0.out with ⟨e, _⟩ | ⟨g', e, _, hlt, _⟩
        · rw [e] at hg; cases hg
        · rw [e] at hg; injection hg with hg; injection hg with hg; omega))) (pg, y) w0.heap.size 1 rfl (heap_alloc_new _ _) (by omega) (by simp; omega) ?_; intro g cap' w1 ho hg hat hlt; have hB2 := Pick.cell HF.out HAB.out HB.out hbe.out hg; rw [← HL.out] at hB2; have c1 : w1.cell? ⟨bo, 0, none⟩ = some (.slice A L.length cap) := one_block hB2 0; have f1 : w1.frozen? ⟨bo, 0, none⟩ = false := one_free hB2 0; have HO1 := Lib.hid ho; have HG := Lib.hid hg; have HAT := Lib.hid hat; have HB2 := Lib.hid hB2; clear ho hg hat hB2)
    | fail)
  go_end0
  exact Pick.more rowLikeP HV.out (x := (pg, y)) rfl HX.out HO.out hbe.out HG.out HAT.out hlt (HL.out ▸ HO1.out) HAB.out hbw hp.low hp.tab hp.pos (by rw [List.length_append, ← HL.out]; exact one_set HB2.out) (mod_set (S := fun b => b = bo) (b := bo) rfl 0 _) (by simp)

end Go.Proofs.YtmkgdgfbdmjeeaaDoor

namespace Go.Proofs.YtmkgdgfbdmjeeaaDoor
open Go.RowKit Go.Sort
set_option linter.unusedSimpArgs false
set_option linter.unusedVariables false

def RowPost {α : Type} (Own : World → Nat → Option Addr → Nat → List α → Prop) (w : World) (l : List α) (e : Ending) (w' : World) : Prop := ∃ A cap, e = .returned (.slice A l.length cap) ∧ Own w' w.heap.size A cap l ∧ Below w.heap.size w w'
theorem Pick.end {α : Type} {Own : World → Nat → Option Addr → Nat → List α → Prop} {ty : TypeId} {F : Ev → List α} {w w0 w1 : World} {S X0 : Nat → Prop} {t : Nat} {l : List Ev} {bo : Nat} (hbo : bo = w.heap.size) (hb0 : Below w.heap.size w w0) (hX : ∀ b, X0 b → b = bo) {X1 : Nat → Prop} (hv : VisOk (Pick Own ty F w.heap.size bo) S t w1 l X1) (hm : Mod X0 w0 w1) :
    ∃ A cap, w1.cell? ⟨bo, 0, none⟩ = some (.slice A (l.flatMap F).length cap) ∧ Own w1 w.heap.size A cap (l.flatMap F) ∧ Below w.heap.size w w1 := by
  obtain ⟨A, cap, h1, h2, h3, h4⟩ := hv.rel
  refine ⟨A, cap, one_block h2 0, h1, ?_⟩
  exact ((Mod.of hb0).trans (Out.refl _ _) (hm.sub fun b hb => by have := hX b hb; omega)).below (S := fun b => b = bo) (fun b hb => by omega) (Nat.le_refl _)

set_option maxHeartbeats 1000000 in
theorem tnodes_any (t c a root : Nat) (w : World) (S : Nat → Prop) (p : Pool) (T : Tab) (rest : Nat → Nat) (pg0 : Nat) (h : PoolAt w S a p) (ht : TabSelf w t c a root) (hg : T.Good p rest pg0 4) (hr : T.nd 4 0 = some root) :
    Calls Tryd.prog 22 #[.pointer (some ⟨t, 0, none⟩)] w (RowPost OwnN w ((T.evs 4 0).flatMap Ev.ns)) := by
  have htw : t < w.heap.size := (Array.getElem?_eq_some_iff.1 ht).1
  have hpos := h.pos
  have hlow := h.low
  have hshort := hg.ok.short
  obtain ⟨w0, hw0⟩ : ∃ w0, w0 = w.alloc (.cells #[.slice none 0 0] 34) := ⟨_, rfl⟩
  have hb0 : Below w.heap.size w w0 := by rw [hw0]; exact (Below.refl _ _).alloc (Nat.le_refl _) _
  have hB0 : w0.heap[w.heap.size]? = some (.cells #[.slice none 0 0] 34 (0, 0)) := by rw [hw0]; exact heap_alloc_new _ _
  have hT0 : TabSelf w0 t c a root := (hb0.block t htw).trans ht
  have c2 : w0.cell? ⟨t, 2, none⟩ = some (.int .i64 (root : Int)) := one_block hT0 2
  have hp : PickOk S t w.heap.size w.heap.size := ⟨hlow, htw, hpos, Nat.le_refl _⟩
  have hvis := vis_nodes4 t c a root root 0 w.heap.size (Pick OwnN 34 Ev.ns w.heap.size w.heap.size) w0 S p T rest pg0 (fun b => b = w.heap.size) [] (h.below hb0) hT0 hg hr (by decide) (Pick.start (OwnN.nil _ _) hB0 (fun b hb => by have := hlow b hb; omega) (by omega) (by omega)) (by simp; omega) (Pick.stays rowLikeN)
    (fun w l X f hv hl => nodes1_any _ _ _ S hp w l X f hv hl) (fun w l X pg y hv hl => nodes2_any _ _ _ _ S w l X pg y hv) 0 (by simp)
  have HT := Lib.hid ht
  have HV := Lib.hid hvis
  have HW0 := Lib.hid hw0
  have HB := Lib.hid hb0
  clear ht h hg hr hvis hw0 hb0 hT0 hB0 hp hlow
  go_enter Tryd.func22, Tryd.ntmps22
  go_wp2_with fail
  refine (tgone_any t c a root _ HT.out).mono ?_
  rintro e w1 ⟨rfl, rfl⟩
  go_upto_region 4 with (fail)
  rw [← HW0.out]
  go_wp2_with fail
  refine HV.out.mono ?_
  rintro e w1 ⟨rfl, X1, hv1, hm1, ho1⟩
  obtain ⟨A, cap, d1, hO1, hB1⟩ := Pick.end rfl HB.out (fun b hb => hb) hv1 hm1
  rw [List.nil_append] at d1 hO1
  have HO1 := Lib.hid hO1
  obtain ⟨n, hn⟩ : ∃ n, n = ((T.evs 4 0).flatMap Ev.ns).length := ⟨_, rfl⟩
  rw [← hn] at d1
  have HN := Lib.hid hn
  clear hv1 hm1 ho1 hO1 hn
  go_wp2_with fail
  go_ret
  exact ⟨A, cap, (by rw [← HN.out]; rfl), HO1.out, hB1⟩

set_option maxHeartbeats 1000000 in
theorem tall_any (t c a root : Nat) (w : World) (S : Nat → Prop) (p : Pool) (T : Tab) (rest : Nat → Nat) (pg0 : Nat) (h : PoolAt w S a p) (ht : TabSelf w t c a root) (hg : T.Good p rest pg0 4) (hr : T.nd 4 0 = some root) :
    Calls Tryd.prog 21 #[.pointer (some ⟨t, 0, none⟩)] w (RowPost OwnP w ((T.evs 4 0).flatMap Ev.ls)) := by
  have htw : t < w.heap.size := (Array.getElem?_eq_some_iff.1 ht).1
  have hpos := h.pos
  have hlow := h.low
  have hshort := hg.ok.short
  obtain ⟨w0, hw0⟩ : ∃ w0, w0 = w.alloc (.cells #[.slice none 0 0] 44) := ⟨_, rfl⟩
  have hb0 : Below w.heap.size w w0 := by rw [hw0]; exact (Below.refl _ _).alloc (Nat.le_refl _) _
  have hB0 : w0.heap[w.heap.size]? = some (.cells #[.slice none 0 0] 44 (0, 0)) := by rw [hw0]; exact heap_alloc_new _ _
  have hT0 : TabSelf w0 t c a root := (hb0.block t htw).trans ht
  have c2 : w0.cell? ⟨t, 2, none⟩ = some (.int .i64 (root : Int)) := one_block hT0 2
  have hp : PickOk S t w.heap.size w.heap.size := ⟨hlow, htw, hpos, Nat.le_refl _⟩
  have hvis := vis_all4 t c a root root 0 w.heap.size (Pick OwnP 44 Ev.ls w.heap.size w.heap.size) w0 S p T rest pg0 (fun b => b = w.heap.size) [] (h.below hb0) hT0 hg hr (by decide) (Pick.start (World.ownsRow_nil _ _ _ 4) hB0 (fun b hb => by have := hlow b hb; omega) (by omega) (by omega)) (by simp; omega) (Pick.stays rowLikeP)
    (fun w l X f hv hl => all1_any _ _ _ _ S w l X f hv) (fun w l X pg y hv hl => all2_any _ _ _ S hp w l X pg y hv hl) 0 (by simp)
  have HT := Lib.hid ht
  have HV := Lib.hid hvis
  have HW0 := Lib.hid hw0
  have HB := Lib.hid hb0
  clear ht h hg hr hvis hw0 hb0 hT0 hB0 hp hlow
  go_enter Tryd.func21, Tryd.ntmps21
  go_wp2_with fail
  refine (tgone_any t c a root _ HT.out).mono ?_
  rintro e w1 ⟨rfl, rfl⟩
  go_upto_region 4 with (fail)
  rw [← HW0.out]
  go_wp2_with fail
  refine HV.out.mono ?_
  rintro e w1 ⟨rfl, X1, hv1, hm1, ho1⟩
  obtain ⟨A, cap, d1, hO1, hB1⟩ := Pick.end rfl HB.out (fun b hb => hb) hv1 hm1
  rw [List.nil_append] at d1 hO1
  have HO1 := Lib.hid hO1
  obtain ⟨n, hn⟩ : ∃ n, n = ((T.evs 4 0).flatMap Ev.ls).length := ⟨_, rfl⟩
  rw [← hn] at d1
  have HN := Lib.hid hn
  clear hv1 hm1 ho1 hO1 hn
  go_wp2_with fail
  go_ret
  exact ⟨A, cap, (by rw [← HN.out]; rfl), HO1.out, hB1⟩

/-- No table, or one that was freed. -/
def TabGone (w : World) : Option Addr → Prop
  | none => True
  | some ad => ∃ t, ad = ⟨t, 0, none⟩ ∧ w.cell? ⟨t, 1, none⟩ = some (.pointer none)
theorem gone_any (P : Option Addr) (w : World) (h : TabGone w P) : Calls Tryd.prog 54 #[.pointer P] w fun e w' => e = .returned (.bool true) ∧ w = w' := by
  cases P with
  | none => exact tgone_nil w
  | some ad =>
    obtain ⟨t, rfl, h1⟩ := h
    exact tgone_freed t w h1
theorem nodes_gone (P : Option Addr) (w : World) (h : TabGone w P) : Calls Tryd.prog 22 #[.pointer P] w fun e w' => e = .returned (.slice none 0 0) ∧ w = w' := by
  have H := Lib.hid h
  clear h
  go_enter Tryd.func22, Tryd.ntmps22
  go_wp2_with fail
  refine (gone_any P _ H.out).mono ?_
  rintro e w1 ⟨rfl, rfl⟩
  go_wp2_with fail
  go_ret
  exact ⟨rfl, rfl⟩
theorem all_gone (P : Option Addr) (w : World) (h : TabGone w P) : Calls Tryd.prog 21 #[.pointer P] w fun e w' => e = .returned (.slice none 0 0) ∧ w = w' := by
  have H := Lib.hid h
  clear h
  go_enter Tryd.func21, Tryd.ntmps21
  go_wp2_with fail
  refine (gone_any P _ H.out).mono ?_
  rintro e w1 ⟨rfl, rfl⟩
  go_wp2_with fail
  go_ret
  exact ⟨rfl, rfl⟩
theorem tfree_gone (P : Option Addr) (w : World) (h : TabGone w P) : Calls Tryd.prog 16 #[.pointer P] w fun e w' => e = .returned (.tuple #[]) ∧ w = w' := by
  have H := Lib.hid h
  clear h
  go_enter Tryd.func16, Tryd.ntmps16
  go_wp2_with fail
  refine (gone_any P _ H.out).mono ?_
  rintro e w1 ⟨rfl, rfl⟩
  go_wp2_with fail
  refine bodyPost_ret (results_none rfl _ _ _) rfl ?_
  exact ⟨rfl, rfl⟩

end Go.Proofs.YtmkgdgfbdmjeeaaDoor

namespace Go.Proofs.YtmkgdgfbdmjeeaaDoor
open Go.RowKit Go.Sort
set_option linter.unusedSimpArgs false
set_option linter.unusedVariables false

/-- Frames given up one behind the other. -/
def downs (p : Pool) (L : List Nat) : Pool := L.foldl Pool.down p
theorem downs_n (p : Pool) (L : List Nat) : (downs p L).n = p.n := by
  induction L generalizing p with
  | nil => rfl
  | cons f L ih => exact ih (p.down f)
theorem downs_dat (p : Pool) (L : List Nat) : (downs p L).dat = p.dat := by
  induction L generalizing p with
  | nil => rfl
  | cons f L ih => exact ih (p.down f)
theorem downs_cnt (p : Pool) (L : List Nat) (f : Nat) : (downs p L).cnt f = p.cnt f - L.count f := by
  induction L generalizing p with
  | nil => rfl
  | cons g L ih =>
    show (downs (p.down g) L).cnt f = _
    rw [ih, List.count_cons]
    show upd p.cnt g (p.cnt g - 1) f - _ = _
    by_cases c : f = g
    · subst c; rw [upd_same]; simp; omega
    · rw [upd_ne _ _ c]
      have : (g == f) = false := by simpa using fun e => c e.symm
      simp [this]
theorem downs_snoc (p : Pool) (L : List Nat) (f : Nat) : downs p (L ++ [f]) = (downs p L).down f := by
  unfold downs
  rw [List.foldl_append]
  rfl
theorem take_snoc {α : Type} {L : List α} {k : Nat} {x : α} (h : L[k]? = some x) : L.take (k + 1) = L.take k ++ [x] := by
  rw [List.take_add_one, h]
  rfl
theorem count_take_lt {L : List Nat} {k f : Nat} (h : L[k]? = some f) : (L.take k).count f + 1 ≤ L.count f := by
  have h1 : (L.take (k + 1)).count f ≤ L.count f := (List.take_sublist _ _).count_le f
  rw [take_snoc h, List.count_append] at h1
  simpa using h1

def FreePost (w : World) (S : Nat → Prop) (t a : Nat) (p : Pool) (L : List Nat) (e : Ending) (w' : World) : Prop :=
  e = .returned (.tuple #[]) ∧ PoolAt w' S a (downs p L) ∧ Mod (fun b => S b ∨ b = t) w w' ∧ w'.cell? ⟨t, 1, none⟩ = some (.pointer none)

set_option maxHeartbeats 1000000 in
theorem tfree_any (t c a root : Nat) (w : World) (S : Nat → Prop) (p : Pool) (T : Tab) (rest : Nat → Nat) (pg0 : Nat) (h : PoolAt w S a p) (ht : TabSelf w t c a root) (htS : ¬ S t) (ht0 : t ≠ 0) (hg : T.Good p rest pg0 4) (hr : T.nd 4 0 = some root) :
    Calls Tryd.prog 16 #[.pointer (some ⟨t, 0, none⟩)] w (FreePost w S t a p ((T.evs 4 0).flatMap Ev.fs)) := by
  have htw : t < w.heap.size := (Array.getElem?_eq_some_iff.1 ht).1
  have hpos := h.pos
  have hlow := h.low
  have hshort := hg.ok.short
  have hcnt : ∀ f, f < p.n → ((T.evs 4 0).flatMap Ev.fs).count f ≤ p.cnt f := fun f hf => by rw [hg.ok.frames_cnt, hg.cnt f hf]; omega
  have hin : ∀ f, f ∈ (T.evs 4 0).flatMap Ev.fs → f < p.n := by
    intro f hf
    have h1 := List.count_pos_iff.2 hf
    rw [hg.ok.frames_cnt] at h1
    by_cases c : isNode T f
    · obtain ⟨l, q, hl⟩ := c
      exact (hg.node hl).1
    · rw [nodeCnt_no c] at h1
      have h2 : 0 < leafCnt T f := by omega
      by_cases c9 : ∃ i, i < pagesN ∧ leafIs T f i = true
      · obtain ⟨i, _, hi⟩ := c9
        unfold leafIs at hi
        cases hl : T.lf i with
        | none => rw [hl] at hi; cases hi
        | some l =>
          rw [hl] at hi
          have e : l.frame = f := by simpa using hi
          rw [← e]
          exact (hg.but.leaf _ l hl).2.2
      · have : leafCnt T f = 0 := cntTo_zero.2 fun i hi => by
          by_cases c8 : leafIs T f i = true
          · exact absurd ⟨i, hi, c8⟩ c9
          · simpa using c8
        omega
  obtain ⟨w0, hw0⟩ : ∃ w0, w0 = w.alloc (.cells #[.slice none 0 0] 34) := ⟨_, rfl⟩
  have hb0 : Below w.heap.size w w0 := by rw [hw0]; exact (Below.refl _ _).alloc (Nat.le_refl _) _
  have hB0 : w0.heap[w.heap.size]? = some (.cells #[.slice none 0 0] 34 (0, 0)) := by rw [hw0]; exact heap_alloc_new _ _
  have hT0 : TabSelf w0 t c a root := (hb0.block t htw).trans ht
  have c2 : w0.cell? ⟨t, 2, none⟩ = some (.int .i64 (root : Int)) := one_block hT0 2
  have hp : PickOk S t w.heap.size w.heap.size := ⟨hlow, htw, hpos, Nat.le_refl _⟩
  have hvis := vis_free4 t c a root root 0 w.heap.size (Pick OwnN 34 Ev.fs w.heap.size w.heap.size) w0 S p T rest pg0 (fun b => b = w.heap.size) [] (h.below hb0) hT0 hg hr (by decide) (Pick.start (OwnN.nil _ _) hB0 (fun b hb => by have := hlow b hb; omega) (by omega) (by omega)) (by simp; omega) (Pick.stays rowLikeN)
    (fun w l X f hv hl => free1_any _ _ _ S hp w l X f hv hl) (fun w l X pg y hv hl => free2_any _ _ _ S hp w l X pg y hv hl) 0 (by simp)
  rw [List.nil_append] at hvis
  have hlen := flatMap_few (F := Ev.fs) (fun e => by cases e <;> simp [Ev.fs]) (T.evs 4 0)
  obtain ⟨L, hL⟩ : ∃ L, L = (T.evs 4 0).flatMap Ev.fs := ⟨_, rfl⟩
  obtain ⟨n, hn⟩ : ∃ n, n = L.length := ⟨_, rfl⟩
  rw [← hL] at hcnt hin hlen ⊢
  have HT := Lib.hid ht
  have HV := Lib.hid hvis
  have HW0 := Lib.hid hw0
  have HB := Lib.hid hb0
  have HP := Lib.hid h
  have HL := Lib.hid hL
  have HN := Lib.hid hn
  have HCNT := Lib.hid hcnt
  have HIN := Lib.hid hin
  rw [← hn] at hlen
  clear ht h hg hr hvis hw0 hb0 hT0 hB0 hp hL hn hcnt hin
  go_enter Tryd.func16, Tryd.ntmps16
  go_wp2_with fail
  refine (tgone_any t c a root _ HT.out).mono ?_
  rintro e w1 ⟨rfl, rfl⟩
  go_upto_region 2 with (fail)
  rw [← HW0.out]
  go_wp2_with fail
  refine HV.out.mono ?_
  rintro e w1 ⟨rfl, X1, hv1, hm1, ho1⟩
  obtain ⟨A, cap, d1, hO1, hB1⟩ := Pick.end rfl HB.out (fun b hb => hb) hv1 hm1
  rw [← HL.out] at d1 hO1
  rw [← HN.out] at d1
  have HO1 := Lib.hid hO1
  have HB1 := Lib.hid hB1
  have hz1 := hB1.size
  clear hv1 hm1 ho1 hO1
  go_wp2_with fail
  go_loopw [17] (fun i wr => ∃ (k : Nat), i = .int .i64 (k : Int) ∧ k ≤ n ∧ PoolAt wr S a (downs p (L.take k)) ∧ Mod S w1 wr) (fun i _ => n - (intOf i).toNat)
  case atStart => exact ⟨0, rfl, by omega, HP.out.below HB1.out, Mod.refl _ _⟩
  case round =>
    obtain ⟨k, rfl, hk, hpk, hmk⟩ := hrel
    have HPK := Lib.hid hpk
    have HMK := Lib.hid hmk
    have hzk := hmk.size
    have hTk : TabSelf wr t c a root := (hmk.block t (by omega) htS).trans ((HB1.out.block t htw).trans HT.out)
    have d2 : wr.cell? ⟨t, 1, none⟩ = some (.pointer (some ⟨a, 0, none⟩)) := one_block hTk 1
    have d3 : wr.frozen? ⟨t, 1, none⟩ = false := one_free hTk 1
    have HTK := Lib.hid hTk
    clear hpk hmk hTk d1
    by_cases hlt : k < n
    · obtain ⟨f, hf⟩ : ∃ f, L[k]? = some f := ⟨L[k]'(by rw [← HN.out]; exact hlt), List.getElem?_eq_getElem _⟩
      have hfm : f ∈ L := List.mem_of_getElem? hf
      have hfn := HIN.out f hfm
      have hc1 := HCNT.out f hfn
      have hc2 := count_take_lt hf
      have hc3 := downs_cnt p (L.take k) f
      have hc4 : 1 ≤ (downs p (L.take k)).cnt f := by omega
      have hn4 : f < (downs p (L.take k)).n := by rw [downs_n]; exact hfn
      rcases OwnN.form HO1.out with ⟨_, e, _⟩ | ⟨g, e, hbg, hgw, _⟩
      · rw [e] at hf; cases hf
      have hgS : ¬ S g := fun e' => by have := hlow g e'; omega
      have hOk : OwnN wr w.heap.size A cap L := HO1.out.same fun g' e' => by
        rw [e] at e'
        injection e' with e'
        injection e' with e'
        subst e'
        exact HMK.out.block g hgw hgS
      rw [e] at hOk
      have d4 := hOk.elem hf
      subst e
      have HF := Lib.hid hf
      have HC4 := Lib.hid hc4
      have HN4 := Lib.hid hn4
      clear hf hfm hfn hc1 hc2 hc3 hc4 hn4 hOk
      go_wp2_with fail
      refine (down_yes a f _ S _ HPK.out HN4.out HC4.out).mono ?_
      rintro e w2 ⟨rfl, hp2, hm2⟩
      have HP2 := Lib.hid hp2
      have HM2 := Lib.hid hm2
      clear hp2 hm2
      go_wp2_with fail
      go_roundw
      case rel => exact ⟨k + 1, by go_num, by omega, by rw [take_snoc HF.out, downs_snoc]; exact HP2.out, HMK.out.trans (Out.refl _ _) HM2.out⟩
      case measure => (simp [intOf]; omega)
    · obtain rfl : k = n := by omega
      go_wp2_with fail
      go_end0
      have hall : L.take k = L := List.take_of_length_le (by rw [← HN.out]; exact Nat.le_refl _)
      have hpk := HPK.out
      rw [hall] at hpk
      refine ⟨rfl, hpk.mod (mod_set (S := fun b => b = t) rfl 1 _) (fun b hb e => htS (e ▸ hb)) (fun e => ht0 e.symm), ?_, ?_⟩
      · exact ((Mod.of HB1.out).trans (Out.refl _ _) (HMK.out.sub fun b hb => .inl hb)).trans (Out.refl _ _) (mod_set (S := fun b => S b ∨ b = t) (.inr rfl) 1 _)
      · exact one_block (Joins.block_setCell (i := 1) HTK.out (.pointer none)) 1

end Go.Proofs.YtmkgdgfbdmjeeaaDoor
