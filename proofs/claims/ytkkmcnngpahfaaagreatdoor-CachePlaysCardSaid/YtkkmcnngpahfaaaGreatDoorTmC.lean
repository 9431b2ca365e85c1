/- Tables: Map, whole. -/
import Derived.Test.YtkkmcnngpahfaaaGreatDoorTmA
import Derived.Test.YtkkmcnngpahfaaaGreatDoorCaZ
import Derived.Test.YtkkmcnngpahfaaaGreatDoorTwA
import Derived.OwnWalk
import Derived.StillTailTactics
import Derived.Deep.DeepCutAuto
import Derived.Deep.CutBlock
namespace Go.Proofs.YtkkmcnngpahfaaaGreatDoor
open Go.RowKit Go.Sort
set_option linter.unusedSimpArgs false
set_option linter.unusedVariables false

set_option maxRecDepth 100000 in
set_option maxHeartbeats 4000000 in
theorem tmap_there (t c a root fs m : Nat) (clock : Int) (A fr q : Int) (cp : Bool) (w : World) (S : Nat → Prop) (p : Pool) (T : Tab) (L : List Slot) (hold : Nat → Nat) (pg0 : Nat) (l : Leaf)
    (h : CacheAt w S c a fs m clock p L) (ht : TabSelf w t c a root) (htS : ¬ S t) (htm : t ≠ m) (hg : T.Good p (held L hold) pg0 4) (hr : T.nd 4 0 = some root) (hA0 : 0 ≤ A) (hA : A < 140737488355328) (hA2 : A % 4096 = 0) (h7 : ¬ 7 < q) (hcnt : countB p fr ≠ 0)
    (hlf : (T.lf (A.toNat / 4096)).isSome = true) :
    Calls Tryz.prog 20 #[.pointer (some ⟨t, 0, none⟩), .int .u64 A, .agg #[.int .i64 fr, .int .u8 q, .bool cp]] w fun e w' => e = .returned (.int .i64 7) ∧ Below w.heap.size w w' := by
  have htw : t < w.heap.size := (Array.getElem?_eq_some_iff.1 ht).1
  have htree := hg.tree hr
  have hpg : A.toNat / 4096 < pagesN := by unfold pagesN; omega
  obtain ⟨w0, hw0⟩ : ∃ w0, w0 = w.alloc (.cells #[.int .i64 fr, .int .u8 q, .bool cp] 31) := ⟨_, rfl⟩
  have hB0 : Below w.heap.size w w0 := by rw [hw0]; exact (Below.refl _ _).alloc (Nat.le_refl _) _
  have hs0 : w0.heap.size = w.heap.size + 1 := by rw [hw0]; simp
  have hL0 : w0.heap[w.heap.size]? = some (.cells #[.int .i64 fr, .int .u8 q, .bool cp] 31 (0, 0)) := by rw [hw0]; exact leafBox
  have hT0 : TabSelf w0 t c a root := (hB0.block t htw).trans ht
  have d1 : ∀ d os, (grow (redrawn w0 d) os).cell? ⟨w.heap.size, 0, none⟩ = some (.int .i64 fr) := fun d os => cell_regrown (one_block hL0 0) d os
  have d2 : ∀ d os, (grow (redrawn w0 d) os).cell? ⟨w.heap.size, 1, none⟩ = some (.int .u8 q) := fun d os => cell_regrown (one_block hL0 1) d os
  have d3 : ∀ d os, (grow (redrawn w0 d) os).cell? ⟨t, 1, none⟩ = some (.pointer (some ⟨a, 0, none⟩)) := fun d os => cell_regrown (one_block hT0 1) d os
  have hC := fun d os => Calls.regrown_of ((count_any a fr (grow (redrawn w0 d) os) S p ((h.pool.below hB0).below (below_regrown w0 d os))).mono fun _ _ ⟨h1, h2⟩ => ⟨h1, h2 ▸ Below.refl _ _⟩)
  have HC := Lib.hid hC
  have HW0 := Lib.hid hw0
  have HT0 := Lib.hid hT0
  have HL0 := Lib.hid hL0
  have H := Lib.hid h
  have HG := Lib.hid hg
  have HR := Lib.hid hr
  have HLF := Lib.hid hlf
  have HS0 := Lib.hid hs0
  have HA0 := Lib.hid hA0
  have HA := Lib.hid hA
  have g1 : decide (140737488355328 ≤ A) = false := decide_eq_false (by omega)
  have g2 : (A.tmod 4096 != 0) = false := by rw [Int.tmod_eq_emod_of_nonneg hA0, hA2]; rfl
  have g3 : decide (7 < q) = false := decide_eq_false h7
  have g4 : (((countB p fr : Nat) : Int) == 0) = false := by rw [beq_eq_false_iff_ne]; omega
  clear hw0 h ht hL0 hC hT0 hg hr hlf hs0 hA hA0 hA2 h7
  go_enter Tryz.func20, Tryz.ntmps20
  go_upto_region 1 with (fail)
  rw [← HW0.out]
  go_wp2_with fail
  refine (tgone_any t c a root _ HT0.out).mono ?_
  rintro e w1 ⟨rfl, rfl⟩
  go_upto_region 3 with (fail)
  refine wp_region_quiet_below (by kernel_rfl) (by kernel_rfl) ?_; (repeat (go_big_quiet_step ((exact HC.out _ _)))); refine wpQuiet_nil ?_; intro _ hw'; obtain ⟨⟨dq, osq⟩, hw''⟩ := hw'; subst hw''; have hb2 := below_regrown (w0) dq osq; generalize grow (redrawn (w0) dq) osq = w2 at hb2 ⊢
  clear d1 d2 d3
  go_wp2_with fail
  refine (way_int A w2 HA0.out (by have := HA.out; omega)).mono ?_
  rintro e w3 ⟨rfl, hb3⟩
  unfold wayA
  go_upto_region 6 with (fail)
  obtain ⟨w4, hw4⟩ : ∃ w4, w4 = w3.alloc (.cells #[.int .i64 ((num (A.toNat / 4096) 4 : Nat) : Int), .int .i64 ((num (A.toNat / 4096) 3 : Nat) : Int), .int .i64 ((num (A.toNat / 4096) 2 : Nat) : Int), .int .i64 ((num (A.toNat / 4096) 1 : Nat) : Int)] 131) := ⟨_, rfl⟩
  rw [← hw4]
  have hB2 : Below w.heap.size w w2 := hB0.trans (hb2.mono hB0.size)
  have hB3 : Below w.heap.size w w3 := hB2.trans (hb3.mono hB2.size)
  have hB4 : Below w.heap.size w w4 := by rw [hw4]; exact hB3.alloc hB3.size _
  have hp4 : w4.heap[w3.heap.size]? = some (.cells #[.int .i64 ((num (A.toNat / 4096) 4 : Nat) : Int), .int .i64 ((num (A.toNat / 4096) 3 : Nat) : Int), .int .i64 ((num (A.toNat / 4096) 2 : Nat) : Int), .int .i64 ((num (A.toNat / 4096) 1 : Nat) : Int)] 131 (0, 0)) := by rw [hw4]; exact heap_alloc_new _ _
  have hl4 : w4.heap[w.heap.size]? = some (.cells #[.int .i64 fr, .int .u8 q, .bool cp] 31 (0, 0)) := by
    have h0 := HS0.out
    have h2 := hb2.size
    have h3 := hb3.size
    have e4 : w4.heap[w.heap.size]? = w3.heap[w.heap.size]? := by rw [hw4]; exact Below.heap_alloc _ _ _ (by omega)
    exact e4.trans ((hb3.block _ (by omega)).trans ((hb2.block _ (by omega)).trans HL0.out))
  have hs4 : w3.heap.size < w4.heap.size := by rw [hw4]; simp
  have hT4 : TabSelf w4 t c a root := (hB4.block t htw).trans ((hB0.block t htw).symm.trans HT0.out)
  have d0 : ∀ d os, (grow (redrawn w4 d) os).cell? ⟨w3.heap.size, 0, none⟩ = some (.int .i64 ((num (A.toNat / 4096) 4 : Nat) : Int)) := fun d os => cell_regrown (one_block hp4 0) d os
  have d1 : ∀ d os, (grow (redrawn w4 d) os).cell? ⟨w3.heap.size, 1, none⟩ = some (.int .i64 ((num (A.toNat / 4096) 3 : Nat) : Int)) := fun d os => cell_regrown (one_block hp4 1) d os
  have d2 : ∀ d os, (grow (redrawn w4 d) os).cell? ⟨w3.heap.size, 2, none⟩ = some (.int .i64 ((num (A.toNat / 4096) 2 : Nat) : Int)) := fun d os => cell_regrown (one_block hp4 2) d os
  have d3 : ∀ d os, (grow (redrawn w4 d) os).cell? ⟨w3.heap.size, 3, none⟩ = some (.int .i64 ((num (A.toNat / 4096) 1 : Nat) : Int)) := fun d os => cell_regrown (one_block hp4 3) d os
  have d4 : ∀ d os, (grow (redrawn w4 d) os).cell? ⟨t, 2, none⟩ = some (.int .i64 (root : Int)) := fun d os => cell_regrown (one_block hT4 2) d os
  have hD := fun d os => Calls.regrown_of ((descend_there t c a root (A.toNat / 4096) (grow (redrawn w4 d) os) S p T ((H.out.pool.below hB4).below (below_regrown w4 d os)) (((below_regrown w4 d os).block t (Nat.lt_of_lt_of_le htw hB4.size)).trans hT4) htree hpg).mono fun _ _ ⟨h1, h2⟩ => ⟨h1, h2⟩)
  unfold wayA at hD
  have HD := Lib.hid hD
  have HP4 := Lib.hid hp4
  have HL4 := Lib.hid hl4
  have HT4 := Lib.hid hT4
  have HB4 := Lib.hid hB4
  have hz3 := hB3.size
  have hs3 : w.heap.size < w3.heap.size := by have := HS0.out; have := hb2.size; have := hb3.size; omega
  clear hD hp4 hl4 hT4 hw4 hB0 hB2 hB3 hB4 hb2 hb3
  refine wp_region_quiet_below (by kernel_rfl) (by kernel_rfl) ?_; (repeat (go_big_quiet_step ((exact HD.out _ _)))); refine wpQuiet_nil ?_; intro _ hw'; obtain ⟨⟨dq, osq⟩, hw''⟩ := hw'; subst hw''; have hb6 := below_regrown (w4) dq osq; generalize grow (redrawn (w4) dq) osq = w6 at hb6 ⊢
  clear d0 d1 d2 d3 d4
  have hz6 := hb6.size
  have hB6 : Below w.heap.size w w6 := HB4.out.trans (hb6.mono (by omega))
  rw [HLF.out]
  go_wp2_with fail
  go_ret
  exact ⟨rfl, hB6⟩

/-- What Map comes to where no leaf is there. -/
def MapRes (p : Pool) (T : Tab) (L : List Slot) (hold : Nat → Nat) (pg : Nat) (l : Leaf) (r : Int) (p' : Pool) (T' : Tab) (L' : List Slot) : Prop :=
  T'.Good p' (held L' hold) pg 4 ∧ p'.n = p.n ∧ Sole L' ∧ L'.Sublist L ∧
  ((r = 4 ∧ T' = T ∧ p.left ≤ 2 ∧ ∀ s ∈ L, s ∉ L' → Loose T L hold s) ∨ (r = 0 ∧ T'.lf = upd T.lf pg (some l) ∧ (∀ lv q f, T.nd lv q = some f → T'.nd lv q = some f) ∧ (isNode T' l.frame → isNode T l.frame)))
/-- What Map leaves as it was, what is full where none is free. -/
def MapFar (p : Pool) (T : Tab) (L : List Slot) (hold : Nat → Nat) (l : Leaf) (r : Int) (p' : Pool) (T' : Tab) (L' : List Slot) : Prop :=
  (∀ x, ¬ isNode T x → (x = l.frame ∨ 0 < hold x + leafCnt T x + slotN L' x) → p'.dat x = p.dat x) ∧
  ((r = 4 ∧ ∃ gs : List Nat, gs.length ≤ 2 ∧ ∀ f, f < p.n → slotN L f ≤ 1 → 0 < leafCnt T f + nodeCnt T f + hold f ∨ f = l.frame ∨ f ∈ gs) ∨ (r = 0 ∧ (∀ x, isNode T' x → isNode T x ∨ p'.cnt x = 1) ∧ p.left ≤ p'.left + 3))
def MapPost2 (w : World) (S : Nat → Prop) (c a fs m : Nat) (clock : Int) (p : Pool) (T : Tab) (L : List Slot) (hold : Nat → Nat) (pg : Nat) (l : Leaf) (e : Ending) (w' : World) : Prop :=
  ∃ r p' T' L' S', e = .returned (.int .i64 r) ∧ CacheAt w' S' c a fs m clock p' L' ∧ Mod (Both S m) w w' ∧ Out S S' w ∧ MapRes p T L hold pg l r p' T' L' ∧ MapFar p T L hold l r p' T' L'
def MapPost (w : World) (S : Nat → Prop) (c a fs m : Nat) (clock : Int) (p : Pool) (T : Tab) (L : List Slot) (hold : Nat → Nat) (pg : Nat) (l : Leaf) (e : Ending) (w' : World) : Prop :=
  ∃ r p' T' L' S', e = .returned (.int .i64 r) ∧ CacheAt w' S' c a fs m clock p' L' ∧ Mod (Both S m) w w' ∧ Out S S' w ∧ MapRes p T L hold pg l r p' T' L'
theorem TakeRes.two {p p' : Pool} {L L' : List Slot} {r : Int} {f : Nat} (h : TakeRes p L r f p' L') : r = 0 ∨ (r = 4 ∧ f = 0 ∧ p' = p ∧ L' = L) := by
  cases h
  · exact .inl rfl
  · exact .inl rfl
  · exact .inr ⟨rfl, rfl, rfl, rfl⟩
theorem row_not {B : Option Addr} {gs : List Nat} {cap base n g' z : Nat} {S3 : Nat → Prop} (hf : (B = none ∧ gs = [] ∧ cap = 0) ∨ ∃ g, B = some ⟨g, 0, none⟩ ∧ base ≤ g ∧ g < n ∧ gs.length ≤ cap) (hr : ∀ b, B = some ⟨b, 0, none⟩ → ¬ S3 b) (hat : B.map (·.block) = some g' ∨ g' = z) (hl : ∀ b, S3 b → b < z) :
    ∀ b, some (⟨g', 0, none⟩ : Addr) = some ⟨b, 0, none⟩ → ¬ S3 b := fun b hb => by
  injection hb with hb
  injection hb with hb
  subst hb
  rcases hat with h | h
  · rcases hf with ⟨h1, _⟩ | ⟨g, h1, _⟩
    · rw [h1] at h; cases h
    · rw [h1] at h
      simp only [Option.map_some, Option.some.injEq] at h
      subst h
      exact hr _ h1
  · exact fun e => by have := hl _ e; omega
theorem link_word {f : Nat} (h : f < 1024) : bits .or .u64 ((f : Int) * 4096) 1 = ((f * 4096 + 1 : Nat) : Int) := by
  have e : ((f : Int) * 4096) = ((f * 4096 : Nat) : Int) := by omega
  have e3 : (1 : Int) = ((1 : Nat) : Int) := rfl
  rw [e, e3, bits_or_u64_nat _ _ (by omega) (by omega)]
  have := Nat.two_pow_add_eq_or_of_lt (i := 12) (b := 1) (by decide) f
  rw [Nat.mul_comm f 4096]
  exact congrArg _ this.symm
theorem path_cell {w : World} {b : Nat} {pg k : Nat} {T : TypeId} {fr : Nat × Nat} (h : w.heap[b]? = some (.cells #[.int .i64 ((num pg 4 : Nat) : Int), .int .i64 ((num pg 3 : Nat) : Int), .int .i64 ((num pg 2 : Nat) : Int), .int .i64 ((num pg 1 : Nat) : Int)] T fr)) (hk : k < 4) :
    w.cell? ⟨b, k, none⟩ = some (.int .i64 ((num pg (4 - k) : Nat) : Int)) := by
  rw [one_block h k]
  rcases (show k = 0 ∨ k = 1 ∨ k = 2 ∨ k = 3 by omega) with rfl | rfl | rfl | rfl <;> rfl
theorem Tab.on_k (t : Tab) (pg k : Nat) (h : k < 3) : t.on pg (4 - k) = match t.nd (3 - k) (part pg (3 - k)) with | some f => f * 4096 + 1 | none => 0 := by
  rw [Tab.on_more _ _ _ (by omega), show 4 - k - 1 = 3 - k from by omega]
  cases t.nd (3 - k) (part pg (3 - k)) <;> rfl

set_option maxRecDepth 100000 in
set_option maxHeartbeats 4000000 in
theorem tmap_go2 (t c a root fs m : Nat) (clock : Int) (A fr q : Int) (cp : Bool) (w : World) (S : Nat → Prop) (p : Pool) (T : Tab) (L : List Slot) (hold : Nat → Nat) (pg0 : Nat) (l : Leaf)
    (h : CacheAt w S c a fs m clock p L) (ht : TabSelf w t c a root) (htS : ¬ S t) (htm : t ≠ m) (hg : T.Good p (held L hold) pg0 4) (hr : T.nd 4 0 = some root) (hA0 : 0 ≤ A) (hA : A < 140737488355328) (hA2 : A % 4096 = 0) (h7 : ¬ 7 < q) (hcnt : countB p fr ≠ 0)
    (hlf : (T.lf (A.toNat / 4096)).isSome = false) (hfr : fr = (l.frame : Int)) (hq : q = (l.prot : Int)) (hcp : cp = l.copy) (hln : l.frame < p.n) (hl1 : 1 ≤ p.cnt l.frame) (hcap : p.cnt l.frame + 1 < 1000000000000) :
    Calls Tryz.prog 20 #[.pointer (some ⟨t, 0, none⟩), .int .u64 A, .agg #[.int .i64 fr, .int .u8 q, .bool cp]] w (MapPost2 w S c a fs m clock p T L hold (A.toNat / 4096) l) := by
  have HFR := Lib.hid hfr
  have HQ := Lib.hid hq
  have HCP := Lib.hid hcp
  clear hfr hq hcp
  have htw : t < w.heap.size := (Array.getElem?_eq_some_iff.1 ht).1
  have htree := hg.tree hr
  have hpg : A.toNat / 4096 < pagesN := by unfold pagesN; omega
  obtain ⟨w0, hw0⟩ : ∃ w0, w0 = w.alloc (.cells #[.int .i64 fr, .int .u8 q, .bool cp] 31) := ⟨_, rfl⟩
  have hB0 : Below w.heap.size w w0 := by rw [hw0]; exact (Below.refl _ _).alloc (Nat.le_refl _) _
  have hs0 : w0.heap.size = w.heap.size + 1 := by rw [hw0]; simp
  have hL0 : w0.heap[w.heap.size]? = some (.cells #[.int .i64 fr, .int .u8 q, .bool cp] 31 (0, 0)) := by rw [hw0]; exact leafBox
  have hT0 : TabSelf w0 t c a root := (hB0.block t htw).trans ht
  have d1 : ∀ d os, (grow (redrawn w0 d) os).cell? ⟨w.heap.size, 0, none⟩ = some (.int .i64 fr) := fun d os => cell_regrown (one_block hL0 0) d os
  have d2 : ∀ d os, (grow (redrawn w0 d) os).cell? ⟨w.heap.size, 1, none⟩ = some (.int .u8 q) := fun d os => cell_regrown (one_block hL0 1) d os
  have d3 : ∀ d os, (grow (redrawn w0 d) os).cell? ⟨t, 1, none⟩ = some (.pointer (some ⟨a, 0, none⟩)) := fun d os => cell_regrown (one_block hT0 1) d os
  have hC := fun d os => Calls.regrown_of ((count_any a fr (grow (redrawn w0 d) os) S p ((h.pool.below hB0).below (below_regrown w0 d os))).mono fun _ _ ⟨h1, h2⟩ => ⟨h1, h2 ▸ Below.refl _ _⟩)
  have HC := Lib.hid hC
  have HW0 := Lib.hid hw0
  have HT0 := Lib.hid hT0
  have HL0 := Lib.hid hL0
  have H := Lib.hid h
  have HG := Lib.hid hg
  have HR := Lib.hid hr
  have HLF := Lib.hid hlf
  have HS0 := Lib.hid hs0
  have HA0 := Lib.hid hA0
  have HA := Lib.hid hA
  have g1 : decide (140737488355328 ≤ A) = false := decide_eq_false (by omega)
  have g2 : (A.tmod 4096 != 0) = false := by rw [Int.tmod_eq_emod_of_nonneg hA0, hA2]; rfl
  have g3 : decide (7 < q) = false := decide_eq_false h7
  have g4 : (((countB p fr : Nat) : Int) == 0) = false := by rw [beq_eq_false_iff_ne]; omega
  clear hw0 h ht hL0 hC hT0 hg hr hlf hs0 hA hA0 hA2 h7
  go_enter Tryz.func20, Tryz.ntmps20
  go_upto_region 1 with (fail)
  rw [← HW0.out]
  go_wp2_with fail
  refine (tgone_any t c a root _ HT0.out).mono ?_
  rintro e w1 ⟨rfl, rfl⟩
  go_upto_region 3 with (fail)
  refine wp_region_quiet_below (by kernel_rfl) (by kernel_rfl) ?_; (repeat (go_big_quiet_step ((exact HC.out _ _)))); refine wpQuiet_nil ?_; intro _ hw'; obtain ⟨⟨dq, osq⟩, hw''⟩ := hw'; subst hw''; have hb2 := below_regrown (w0) dq osq; generalize grow (redrawn (w0) dq) osq = w2 at hb2 ⊢
  clear d1 d2 d3
  go_wp2_with fail
  refine (way_int A w2 HA0.out (by have := HA.out; omega)).mono ?_
  rintro e w3 ⟨rfl, hb3⟩
  unfold wayA
  go_upto_region 6 with (fail)
  obtain ⟨w4, hw4⟩ : ∃ w4, w4 = w3.alloc (.cells #[.int .i64 ((num (A.toNat / 4096) 4 : Nat) : Int), .int .i64 ((num (A.toNat / 4096) 3 : Nat) : Int), .int .i64 ((num (A.toNat / 4096) 2 : Nat) : Int), .int .i64 ((num (A.toNat / 4096) 1 : Nat) : Int)] 131) := ⟨_, rfl⟩
  rw [← hw4]
  have hB2 : Below w.heap.size w w2 := hB0.trans (hb2.mono hB0.size)
  have hB3 : Below w.heap.size w w3 := hB2.trans (hb3.mono hB2.size)
  have hB4 : Below w.heap.size w w4 := by rw [hw4]; exact hB3.alloc hB3.size _
  have hp4 : w4.heap[w3.heap.size]? = some (.cells #[.int .i64 ((num (A.toNat / 4096) 4 : Nat) : Int), .int .i64 ((num (A.toNat / 4096) 3 : Nat) : Int), .int .i64 ((num (A.toNat / 4096) 2 : Nat) : Int), .int .i64 ((num (A.toNat / 4096) 1 : Nat) : Int)] 131 (0, 0)) := by rw [hw4]; exact heap_alloc_new _ _
  have hl4 : w4.heap[w.heap.size]? = some (.cells #[.int .i64 fr, .int .u8 q, .bool cp] 31 (0, 0)) := by
    have h0 := HS0.out
    have h2 := hb2.size
    have h3 := hb3.size
    have e4 : w4.heap[w.heap.size]? = w3.heap[w.heap.size]? := by rw [hw4]; exact Below.heap_alloc _ _ _ (by omega)
    exact e4.trans ((hb3.block _ (by omega)).trans ((hb2.block _ (by omega)).trans HL0.out))
  have hs4 : w3.heap.size < w4.heap.size := by rw [hw4]; simp
  have hT4 : TabSelf w4 t c a root := (hB4.block t htw).trans ((hB0.block t htw).symm.trans HT0.out)
  have d0 : ∀ d os, (grow (redrawn w4 d) os).cell? ⟨w3.heap.size, 0, none⟩ = some (.int .i64 ((num (A.toNat / 4096) 4 : Nat) : Int)) := fun d os => cell_regrown (one_block hp4 0) d os
  have d1 : ∀ d os, (grow (redrawn w4 d) os).cell? ⟨w3.heap.size, 1, none⟩ = some (.int .i64 ((num (A.toNat / 4096) 3 : Nat) : Int)) := fun d os => cell_regrown (one_block hp4 1) d os
  have d2 : ∀ d os, (grow (redrawn w4 d) os).cell? ⟨w3.heap.size, 2, none⟩ = some (.int .i64 ((num (A.toNat / 4096) 2 : Nat) : Int)) := fun d os => cell_regrown (one_block hp4 2) d os
  have d3 : ∀ d os, (grow (redrawn w4 d) os).cell? ⟨w3.heap.size, 3, none⟩ = some (.int .i64 ((num (A.toNat / 4096) 1 : Nat) : Int)) := fun d os => cell_regrown (one_block hp4 3) d os
  have d4 : ∀ d os, (grow (redrawn w4 d) os).cell? ⟨t, 2, none⟩ = some (.int .i64 (root : Int)) := fun d os => cell_regrown (one_block hT4 2) d os
  have hD := fun d os => Calls.regrown_of ((descend_there t c a root (A.toNat / 4096) (grow (redrawn w4 d) os) S p T ((H.out.pool.below hB4).below (below_regrown w4 d os)) (((below_regrown w4 d os).block t (Nat.lt_of_lt_of_le htw hB4.size)).trans hT4) htree hpg).mono fun _ _ ⟨h1, h2⟩ => ⟨h1, h2⟩)
  unfold wayA at hD
  have HD := Lib.hid hD
  have HP4 := Lib.hid hp4
  have HL4 := Lib.hid hl4
  have HT4 := Lib.hid hT4
  have HB4 := Lib.hid hB4
  have hz3 := hB3.size
  have hs3 : w.heap.size < w3.heap.size := by have := HS0.out; have := hb2.size; have := hb3.size; omega
  clear hD hp4 hl4 hT4 hw4 hB0 hB2 hB3 hB4 hb2 hb3
  refine wp_region_quiet_below (by kernel_rfl) (by kernel_rfl) ?_; (repeat (go_big_quiet_step ((exact HD.out _ _)))); refine wpQuiet_nil ?_; intro _ hw'; obtain ⟨⟨dq, osq⟩, hw''⟩ := hw'; subst hw''; have hb6 := below_regrown (w4) dq osq; generalize grow (redrawn (w4) dq) osq = w6 at hb6 ⊢
  clear d0 d1 d2 d3 d4
  have hz6 := hb6.size
  have hB6 : Below w.heap.size w w6 := HB4.out.trans (hb6.mono (by omega))
  rw [HLF.out]
  go_upto_region 9 with (fail)
  have hC6 := H.out.below hB6
  have hT6 : TabSelf w6 t c a root := (hb6.block t (by omega)).trans HT4.out
  have hp6 := (hb6.block w3.heap.size (by omega)).trans HP4.out
  have hl6 := (hb6.block w.heap.size (by omega)).trans HL4.out
  have d0 : w6.cell? ⟨t, 1, none⟩ = some (.pointer (some ⟨a, 0, none⟩)) := one_block hT6 1
  have d1 : w6.cell? ⟨w.heap.size, 0, none⟩ = some (.int .i64 fr) := one_block hl6 0
  have hS3 : ¬ S w3.heap.size := fun e => by have := H.out.pool.low _ e; omega
  have hS0 : ¬ S w.heap.size := fun e => by have := H.out.pool.low _ e; omega
  have hup := up_yes a l.frame w6.drew S p (hC6.pool.drew) (by rw [takenB_nat]; exact decide_eq_true ⟨hln, hl1⟩) hcap
  rw [← HFR.out] at hup
  have HUP := Lib.hid hup
  have HC6 := Lib.hid hC6
  have HT6 := Lib.hid hT6
  have HP6 := Lib.hid hp6
  have HL6 := Lib.hid hl6
  clear hup hC6 hT6 hp6 hl6
  go_still_tail 6, (by kernel_rfl)
  go_wp2_with fail
  refine (HUP.out).mono ?_
  rintro e w7 ⟨rfl, hP7, hm7'⟩
  have hm7 := hm7'.undrew
  have hz7 := hm7.size
  have hC7 := HC6.out.turn hm7 hP7 (Out.refl _ _)
  have hT7 : TabSelf w7 t c a root := (hm7.block t (by omega) htS).trans HT6.out
  have hp7 := (hm7.block w3.heap.size (by omega) hS3).trans HP6.out
  have hl7 := (hm7.block w.heap.size (by omega) hS0).trans HL6.out
  have hG7 := HG.out.up l.frame
  rw [held_upd] at hG7
  generalize hp1 : p.up l.frame = p1 at *
  generalize hh1 : upd hold l.frame (hold l.frame + 1) = hold1 at *
  have e2 : w7.cell? ⟨t, 2, none⟩ = some (.int .i64 (root : Int)) := one_block hT7 2
  have HC7 := Lib.hid hC7
  have HT7 := Lib.hid hT7
  have HP7 := Lib.hid hp7
  have HL7 := Lib.hid hl7
  have HG7 := Lib.hid hG7
  have HP1 := Lib.hid hp1
  have HH1 := Lib.hid hh1
  have hwy := hG7.way (A.toNat / 4096)
  clear hP7 hm7' hC7 hT7 hp7 hl7 hG7 d0 d1 hp1 hh1
  go_upto_block 1 with (fail)
  go_cut [10, 11] (fun n d wx => ∃ k g : Nat, n = .int .i64 (g : Int) ∧ d = .int .i64 (k : Int) ∧ k ≤ 3 ∧ T.nd (4 - k) (part (A.toNat / 4096) (4 - k)) = some g ∧ (k = 3 ∨ T.nd (3 - k) (part (A.toNat / 4096) (3 - k)) = none) ∧ Below w7.heap.size w7 wx)
  case first =>
    go_wp2_with fail
    go_loopw [10, 11] (fun n d wr => ∃ k g : Nat, n = .int .i64 (g : Int) ∧ d = .int .i64 (k : Int) ∧ k ≤ 3 ∧ T.nd (4 - k) (part (A.toNat / 4096) (4 - k)) = some g ∧ Below w7.heap.size w7 wr) (fun _ d _ => 3 - (intOf d).toNat)
    case atStart => exact ⟨0, root, rfl, rfl, by omega, by rw [show 4 - 0 = 4 from rfl, part_four _ hpg]; exact HR.out, Below.refl _ _⟩
    case round =>
      obtain ⟨k, g, rfl, rfl, hk, hnd, hb⟩ := hrel
      obtain ⟨n1, n2, n3⟩ := hwy.node (4 - k) g (by omega) (by omega) hnd
      have HND := Lib.hid hnd
      have HN3 := Lib.hid n3
      clear hnd n3
      by_cases hlt : k < 3
      · have hpc : wr.cell? ⟨w3.heap.size, k, none⟩ = some (.int .i64 ((num (A.toNat / 4096) (4 - k) : Nat) : Int)) := path_cell ((hb.block _ (by omega)).trans HP7.out) (by omega)
        obtain ⟨nm, hnm⟩ : ∃ nm, nm = num (A.toNat / 4096) (4 - k) := ⟨_, rfl⟩
        rw [← hnm] at hpc
        have hnl : nm < 512 := by rw [hnm]; exact num_lt _ _
        have HNM := Lib.hid hnm
        clear hnm
        go_wp2_with fail
        refine (tword_any t c a root g nm wr S p1 (HC7.out.pool.below hb) ((hb.block t (by omega)).trans HT7.out) n1 n2 hnl).mono ?_
        rintro e w8 ⟨rfl, hb8⟩
        have hb78 : Below w7.heap.size w7 w8 := hb.trans (hb8.mono hb.size)
        cases hch : T.nd (3 - k) (part (A.toNat / 4096) (3 - k)) with
        | none =>
          have e0 : word (p1.dat g) nm = 0 := by rw [HNM.out, HN3.out, Tab.on_k _ _ _ hlt, hch]
          have HCH := Lib.hid hch
          clear hch
          rw [e0]
          have hz := and_none
          go_wp2_with fail
          go_meet
          exact ⟨k, g, rfl, rfl, hk, HND.out, .inr HCH.out, hb78⟩
        | some g' =>
          have e0 : word (p1.dat g) nm = g' * 4096 + 1 := by rw [HNM.out, HN3.out, Tab.on_k _ _ _ hlt, hch]
          obtain ⟨m1, m2, _⟩ := hwy.node (3 - k) g' (by omega) (by omega) hch
          have hfew := hwy.few
          obtain ⟨x, hx⟩ : ∃ x, x = g' * 4096 + 1 := ⟨_, rfl⟩
          rw [e0, ← hx]
          have hx9 : x < 18446744073709551616 := by omega
          have hodd := and_odd hx9 (by omega)
          have hsh : ((x : Int) / 4096) = (g' : Int) := by omega
          have HSH := Lib.hid hsh
          have HCH := Lib.hid hch
          clear hch hx e0 hsh
          go_wp2_with fail
          go_roundw
          case rel => exact ⟨k + 1, g', by first | rw [HSH.out] | rfl, by go_num, by omega, by rw [show 4 - (k + 1) = 3 - k from by omega]; exact HCH.out, hb78⟩
          case measure => simp [intOf]; omega
      · obtain rfl : k = 3 := by omega
        go_wp2_with fail
        go_meet
        exact ⟨3, g, rfl, rfl, by omega, HND.out, .inl rfl, hb⟩
  case rest =>
    obtain ⟨k, g, rfl, rfl, hk, hnd, hend, hb⟩ := hcut
    have hmw := HC7.out.lts.2.1
    have hzc := hb.size
    have HND := Lib.hid hnd
    have HEND := Lib.hid hend
    have HB := Lib.hid hb
    have hT0 := Took.nil HG7.out HC7.out.slots.sole (A.toNat / 4096)
    have HTOOK := Lib.hid hT0
    have h3 : w3.heap.size ≠ m := by have := H.out.lts.2.1; omega
    have h0 : w.heap.size ≠ m := by have := H.out.lts.2.1; omega
    have ht7 : t < w7.heap.size := by omega
    have h37 : w3.heap.size < w7.heap.size := by omega
    have h07 : w.heap.size < w7.heap.size := by omega
    have hkeep : ∀ w' S', Mod (Both S m) w7 w' → Out S S' w7 → TabSelf w' t c a root ∧ w'.heap[w3.heap.size]? = w7.heap[w3.heap.size]? ∧ w'.heap[w.heap.size]? = w7.heap[w.heap.size]? ∧ ¬ S' t ∧ ¬ S' w3.heap.size ∧ ¬ S' w.heap.size ∧ w7.heap.size ≤ w'.heap.size := fun w' S' hm ho =>
      ⟨(hm.block t ht7 (fun e => e.elim htS htm)).trans HT7.out, hm.block _ h37 (fun e => e.elim hS3 h3), hm.block _ h07 (fun e => e.elim hS0 h0), fun e => (ho _ e).elim htS (by omega), fun e => (ho _ e).elim hS3 (by omega), fun e => (ho _ e).elim hS0 (by omega), hm.size⟩
    have HKEEP := Lib.hid hkeep
    clear hnd hend hT0 hkeep hb e2
    obtain ⟨pgA, hpgA⟩ : ∃ pgA, pgA = A.toNat / 4096 := ⟨_, rfl⟩
    rw [← hpgA] at HTOOK
    have HPG := Lib.hid hpgA
    clear hpgA
    go_wp2_with fail
    go_loopw [13, 88] (fun v i wr => ∃ (gs : List Nat) (A : Option Addr) (cap : Nat) (p2 : Pool) (L2 : List Slot) (S2 : Nat → Prop), v = .slice A gs.length cap ∧ i = .int .i64 (gs.length : Int) ∧ gs.length ≤ 3 - k ∧ OwnN wr w7.heap.size A cap gs ∧ (∀ b, A = some ⟨b, 0, none⟩ → ¬ S2 b) ∧ CacheAt wr S2 c a fs m clock p2 L2 ∧ Mod (Both S m) w7 wr ∧ Out S S2 w7 ∧ Took T p1.n p1.left p1.dat L hold1 pgA gs p2 L2)
      (fun _ i _ => 3 - (intOf i).toNat)
    case atStart => exact ⟨[], none, 0, p1, L, S, rfl, rfl, Nat.zero_le _, OwnN.nil _ _, (fun b e => by cases e), HC7.out.below HB.out, Mod.of HB.out, Out.refl _ _, HTOOK.out⟩
    case round =>
      obtain ⟨gs, B, cap, p2, L2, S2, rfl, rfl, hle, hown, hrow, hC2, hm2, ho2, htk⟩ := hrel
      obtain ⟨k1, k2, k3, k4, k5, k6, k7⟩ := HKEEP.out _ _ hm2 ho2
      by_cases hlt : gs.length < 3 - k
      · have e0 : wr.cell? ⟨t, 0, none⟩ = some (.pointer (some ⟨c, 0, none⟩)) := one_block k1 0
        have HC2 := Lib.hid hC2
        have HTK := Lib.hid htk
        have K1 := Lib.hid k1
        have K2 := Lib.hid k2
        have K3 := Lib.hid k3
        have HOWN := Lib.hid hown
        have HROW := Lib.hid hrow
        clear k1 k2 k3 hC2 htk hown hrow
        go_wp2_with fail
        refine (ctake_any c a fs m clock wr S2 p2 L2 HC2.out).mono ?_
        rintro e w8 ⟨r, f, p3, L3, S3, rfl, hC3, hm3, ho3, hres⟩
        have hz3 := hm3.size
        have hm3a : Mod (Both S m) w7 w8 := hm2.trans (fun b e => by
          rcases e with h | h
          · exact (ho2 b h).imp .inl (fun h => Nat.le_trans (Nat.le_refl _) h)
          · exact .inl (.inr h)) hm3
        have ho3a : Out S S3 w7 := ho2.trans ho3 k7
        have hown3 : OwnN w8 w7.heap.size B cap gs := HOWN.out.same fun b hb => hm3.block b (by
          rcases HOWN.out.form with ⟨h, _⟩ | ⟨g1, h, _, h5, _⟩
          · rw [h] at hb; cases hb
          · rw [h] at hb; injection hb with hb; injection hb with hb; omega) (fun e => e.elim (HROW.out b hb) (fun e2 => by
          rcases HOWN.out.form with ⟨h, _⟩ | ⟨g1, h, h4, h5, _⟩
          · rw [h] at hb; cases hb
          · rw [h] at hb; injection hb with hb; injection hb with hb; omega))
        have hrow3 : ∀ b, B = some ⟨b, 0, none⟩ → ¬ S3 b := fun b hb e => by
          rcases ho3 b e with h | h
          · exact HROW.out b hb h
          · rcases HOWN.out.form with ⟨h4, _⟩ | ⟨g1, h4, _, h5, _⟩
            · rw [h4] at hb; cases hb
            · rw [h4] at hb; injection hb with hb; injection hb with hb; omega
        have HC3 := Lib.hid hC3
        have HOWN3 := Lib.hid hown3
        have HROW3 := Lib.hid hrow3
        have HM3 := Lib.hid hm3a
        have HO3 := Lib.hid ho3a
        clear hC3 hown3 hrow3 hm3a ho3a
        rcases hres.two with rfl | ⟨rfl, rfl, rfl, rfl⟩
        · have HRES := Lib.hid hres
          have hlow3 : ∀ b, S3 b → b < w8.heap.size := HC3.out.pool.low
          have hlts := HC3.out.lts
          have hgrow : ∀ w9 w10, Below w8.heap.size w8 w9 → w9.grownBy w10 (B.map (·.block)) → CacheAt w10 S3 c a fs m clock p3 L3 ∧ Mod (Both S m) w7 w10 := fun w9 w10 h9 h10 => by
            have hrowB : ∀ b, B.map (·.block) = some b → w7.heap.size ≤ b ∧ ¬ S3 b := fun b hb => by
              rcases HOWN.out.form with ⟨h, _⟩ | ⟨g1, h, h4, h5, _⟩
              · rw [h] at hb; cases hb
              · rw [h] at hb
                simp only [Option.map_some, Option.some.injEq] at hb
                subst hb
                exact ⟨h4, HROW3.out _ h⟩
            have hm10 : Mod (fun b => B.map (·.block) = some b) w9 w10 := ⟨h10.os, h10.tape, h10.output, h10.size, fun b hb hn => h10.block b hb (fun e => hn e.symm)⟩
            refine ⟨(HC3.out.below h9).mod hm10 (fun b hb e => (hrowB b e).2 hb) (fun e => by have := (hrowB 0 e).1; omega) (fun e => by have := (hrowB c e).1; have := HC7.out.lts.1; omega) (fun e => by have := (hrowB m e).1; omega), ?_⟩
            have h11 : Mod (fun b => Both S m b ∨ w7.heap.size ≤ b) w7 w10 := (HM3.out.sub fun b hb => .inl hb).trans (Out.refl _ _) ((Mod.of h9).trans (Out.refl _ _) (hm10.sub fun b hb => .inr (hrowB b hb).1))
            exact ⟨h11.os, h11.tape, h11.output, h11.size, fun b hb hn => h11.block b hb (fun e => e.elim hn (fun e => by omega))⟩
          have HGROW := Lib.hid hgrow
          clear hres hgrow
          go_wp2_with (first
            | (at_builtin; refine app_int rfl (.tmp 121) (.tmp 123) rfl w7.heap.size B cap gs rfl (HOWN3.out.alloc _) f w8.heap.size 1 rfl (heap_alloc_new _ _) (by omega) (by simp; omega) ?_; intro g' cap' w10 ho10 hg10 hat10 hlt10; have hgr := HGROW.out _ _ ((Below.refl w8.heap.size w8).alloc (Nat.le_refl _) _) hg10; have hrw : ∀ b, some (⟨g', 0, none⟩ : Addr) = some ⟨b, 0, none⟩ → ¬ S3 b := row_not HOWN.out.form HROW3.out hat10 (fun b hb => by have := hlow3 b hb; simp; omega); have HGR := Lib.hid hgr; have HRW := Lib.hid hrw; have HO10 := Lib.hid ho10; clear hgr hrw ho10 hg10 hat10)
            | fail)
          go_roundw
          case rel => exact ⟨gs ++ [f], some ⟨g', 0, none⟩, cap', p3, L3, S3, by rw [List.length_append]; rfl, by rw [List.length_append]; go_num, by rw [List.length_append]; simp; omega, HO10.out, HRW.out, HGR.out.1, HGR.out.2, HO3.out, HTK.out.step HRES.out⟩
          case measure => simp [intOf]; omega
        · have hBf := HOWN3.out.form
          have hTK8 : TabSelf w8 t c a root := (HKEEP.out _ _ HM3.out HO3.out).1
          have hl8 := ((HKEEP.out _ _ HM3.out HO3.out).2.2.1).trans HL7.out
          obtain ⟨s1, s2, s3, s4⟩ := (HKEEP.out _ _ HM3.out HO3.out).2.2.2
          have HT8 := Lib.hid hTK8
          have HL8 := Lib.hid hl8
          have HBF := Lib.hid hBf
          have ht8 : t < w8.heap.size := by omega
          have h08 : w.heap.size < w8.heap.size := by omega
          have hz8 : w7.heap.size ≤ w8.heap.size := s4
          have hgl : gs.length ≤ 3 := by omega
          have hloose : ∀ s ∈ L, s ∉ L3 → Loose T L hold s := fun s hs1 hs2 => by
            obtain ⟨l1, l2, l3, l4⟩ := HTK.out.drop s hs1 hs2
            refine ⟨l1, l2, l3, ?_⟩
            rw [← HH1.out] at l4
            by_cases e : s.frame = l.frame
            · rw [e, upd_same] at l4; omega
            · rwa [upd_ne _ _ e] at l4
          have HLOOSE := Lib.hid hloose
          clear hloose
          have hfull : ∃ gs : List Nat, gs.length ≤ 2 ∧ ∀ f, f < p.n → slotN L f ≤ 1 → 0 < leafCnt T f + nodeCnt T f + hold f ∨ f = l.frame ∨ f ∈ gs := by
            refine ⟨gs, by omega, fun f hf hs => ?_⟩
            rcases HTK.out.full hres (f := f) (by rw [← HP1.out]; exact hf) hs with h9 | h9
            · by_cases e : f = l.frame
              · exact .inr (.inl e)
              · left
                rw [← HH1.out, upd_ne _ _ e] at h9
                exact h9
            · exact .inr (.inr h9)
          have HFULL := Lib.hid hfull
          clear hfull
          have hroom2 : p.left ≤ 2 := by
            have h1 := HTK.out.room
            have h2 := hres.full
            have h3 : p1.left = p.left := by rw [← HP1.out]; exact left_up hl1
            omega
          clear hTK8 hl8 hBf hres
          go_wp2_with fail
          go_loopw [102] (fun i wx => ∃ (j : Nat) (p4 : Pool), i = .int .i64 (j : Int) ∧ j ≤ gs.length ∧ CacheAt wx S3 c a fs m clock p4 L3 ∧ Mod S3 w8 wx ∧ Undo T p1.n p1.dat L3 hold1 pgA (gs.drop j) p4) (fun i _ => 3 - (intOf i).toNat)
          case atStart => exact ⟨0, _, rfl, Nat.zero_le _, HC3.out, Mod.refl _ _, HTK.out.undo⟩
          case round =>
            obtain ⟨j, p4, rfl, hj, hC4, hm4, hun⟩ := hrel
            have HC4 := Lib.hid hC4
            have HUN := Lib.hid hun
            have HM4 := Lib.hid hm4
            clear hC4 hun
            by_cases hjl : j < gs.length
            · obtain ⟨f1, hf1⟩ : ∃ f1, gs[j]? = some f1 := ⟨gs[j], List.getElem?_eq_getElem hjl⟩
              have hdrop : gs.drop j = f1 :: gs.drop (j + 1) := by
                rw [List.drop_eq_getElem_cons hjl]
                congr 1
                have := List.getElem?_eq_getElem hjl
                rw [hf1] at this
                injection this with this
                exact this.symm
              rcases HBF.out with ⟨h, h2, _⟩ | ⟨g1, hB1, hg1, hg2, hg3⟩
              · rw [h2] at hjl; cases hjl
              · have hun1 := HUN.out
                rw [hdrop] at hun1
                obtain ⟨v1, v2⟩ := hun1.live
                have HUN1 := Lib.hid hun1.step
                have hrow4 : OwnN wr w7.heap.size B cap gs := HOWN3.out.same fun b hb => hm4.block b (by rw [hB1] at hb; injection hb with hb; injection hb with hb; omega) (HROW3.out b hb)
                have e1 : wr.cell? ⟨t, 1, none⟩ = some (.pointer (some ⟨a, 0, none⟩)) := one_block ((hm4.block t ht8 s1).trans HT8.out) 1
                subst hB1
                have e5 : wr.cell? ⟨g1, j, none⟩ = some (.int .i64 (f1 : Int)) := hrow4.elem hf1
                clear hf1 hdrop hun1 hrow4 HUN
                go_wp2_with fail
                refine (down_yes a f1 wr S3 p4 HC4.out.pool v1 v2).mono ?_
                rintro e w9 ⟨rfl, hP9, hm9⟩
                go_wp2_with fail
                go_roundw
                case rel => exact ⟨j + 1, _, by go_num, by omega, HC4.out.turn hm9 hP9 (Out.refl _ _), HM4.out.trans (Out.refl _ _) hm9, HUN1.out⟩
                case measure => simp [intOf]; omega
            · obtain rfl : j = gs.length := by omega
              have hun2 := HUN.out
              rw [List.drop_length] at hun2
              have hg2 := hun2.good
              rw [plus_nil] at hg2
              have hh : 0 < hold1 l.frame := by rw [← HH1.out, upd_same]; omega
              have hn4 : p4.n = p1.n := hun2.n
              have hn1 : p1.n = p.n := by rw [← HP1.out]; rfl
              have hc4 := hg2.cnt l.frame (by omega)
              have hg3 := hg2.down (f := l.frame) (by unfold held; omega)
              rw [held_less _ _ _ hh] at hg3
              have hback : upd hold1 l.frame (hold1 l.frame - 1) = hold := by
                rw [← HH1.out, upd_same]
                funext x
                by_cases e : x = l.frame
                · subst e; rw [upd_same]; omega
                · rw [upd_ne _ _ e, upd_ne _ _ e]
              rw [hback] at hg3
              have hkept : ∀ x, ¬ isNode T x → (x = l.frame ∨ 0 < hold x + leafCnt T x + slotN L3 x) → p4.dat x = p.dat x := fun x _ hx => by
                have h9 := hun2.dat x (by rw [← HH1.out]; by_cases e : x = l.frame; (· subst e; rw [upd_same]; omega); (· rw [upd_ne _ _ e]; exact hx.resolve_left e))
                rw [h9, ← HP1.out]
                rfl
              have HKEPT := Lib.hid hkept
              clear hkept
              have hsole := HTK.out.sole
              have hsub := HTK.out.sub
              have hTx : TabSelf wr t c a root := (hm4.block t ht8 s1).trans HT8.out
              have hlx := (hm4.block _ h08 s3).trans HL8.out
              have d0 : wr.cell? ⟨t, 1, none⟩ = some (.pointer (some ⟨a, 0, none⟩)) := one_block hTx 1
              have d1 : wr.cell? ⟨w.heap.size, 0, none⟩ = some (.int .i64 fr) := one_block hlx 0
              have hdn := down_yes a l.frame wr.drew S3 p4 HC4.out.pool.drew (by omega) (by unfold held at hc4; omega)
              rw [← HFR.out] at hdn
              have HDN := Lib.hid hdn
              have HG3 := Lib.hid hg3
              clear hun2 hg2 hc4 hg3 hTx hlx hdn hback
              go_upto_region 27 with (fail)
              go_still_tail 6, (by kernel_rfl)
              go_wp2_with fail
              refine (HDN.out).mono ?_
              rintro e w9 ⟨rfl, hP9, hm9'⟩
              have hm9 := hm9'.undrew
              go_wp2_with fail
              go_ret
              have hmA : Mod (Both S m) w w7 := (Mod.of hB6).trans (Out.refl _ _) (hm7.sub fun b hb => .inl hb)
              have hz7w : w.heap.size ≤ w7.heap.size := by omega
              exact ⟨4, _, T, _, S3, rfl, HC4.out.turn hm9 hP9 (Out.refl _ _), (hmA.trans (Out.refl _ _) HM3.out).trans (fun b hb => (HO3.out b hb).imp .inl (fun h => by omega)) (HM4.out.trans (Out.refl _ _) hm9), fun b hb => (HO3.out b hb).imp id (fun h => by omega), ⟨by rw [HPG.out] at HG3; exact HG3.out, by show p4.n = p.n; omega, hsole, hsub, .inl ⟨rfl, rfl, hroom2, HLOOSE.out⟩⟩, HKEPT.out, .inl ⟨rfl, HFULL.out⟩⟩
      · have heq : gs.length = 3 - k := Nat.le_antisymm hle (Nat.le_of_not_lt hlt)
        have HTOOK2 := Lib.hid htk
        have hBf := hown.form
        have hlk := Linked.start htk (d := k) (g := g) (by rw [heq]; exact Nat.add_sub_cancel' hk) (by rw [HPG.out]; exact HND.out) (by rw [HPG.out]; exact HEND.out)
        have hl2 := k3.trans HL7.out
        have hp2 := k2.trans HP7.out
        obtain ⟨wl, hwl⟩ : ∃ wl, wl = wr := ⟨_, rfl⟩
        subst hwl
        have HC2 := Lib.hid hC2
        have HLK := Lib.hid hlk
        have HL2 := Lib.hid hl2
        have HP2 := Lib.hid hp2
        have HT2 := Lib.hid k1
        have HBF := Lib.hid hBf
        have HOWN := Lib.hid hown
        have HROW := Lib.hid hrow
        have htl : t < wl.heap.size := by omega
        have h3l : w3.heap.size < wl.heap.size := by omega
        have h0l : w.heap.size < wl.heap.size := by omega
        clear hC2 hlk hl2 hp2 k1 k2 k3 hBf hown hrow htk
        go_wp2_with fail
        go_loopw [10, 11, 128] (fun nn dd i wx => ∃ (j d g4 : Nat) (p4 : Pool) (T4 : Tab), nn = .int .i64 (g4 : Int) ∧ dd = .int .i64 (d : Int) ∧ i = .int .i64 (j : Int) ∧ d = k + j ∧ j ≤ gs.length ∧ CacheAt wx S2 c a fs m clock p4 L2 ∧ Mod S2 wl wx ∧ Linked T p1.n p1.left p1.dat L2 hold1 pgA d g4 (gs.drop j) p4 T4) (fun _ _ i _ => 3 - (intOf i).toNat)
        case atStart => exact ⟨0, k, g, p2, T, rfl, rfl, rfl, rfl, Nat.zero_le _, HC2.out, Mod.refl _ _, HLK.out⟩
        case round =>
          obtain ⟨j, d, g4, p4, T4, rfl, rfl, rfl, hdk, hj, hC4, hm4, hln4⟩ := hrel
          have HC4 := Lib.hid hC4
          have HLN := Lib.hid hln4
          have HM4 := Lib.hid hm4
          have HT4 := Lib.hid ((hm4.block t htl k4).trans HT2.out)
          have hpx := (hm4.block _ h3l k5).trans HP2.out
          have hlx := (hm4.block _ h0l k6).trans HL2.out
          obtain ⟨v1, v2⟩ := hln4.live
          clear hC4 hln4
          by_cases hjl : j < gs.length
          · obtain ⟨f1, hf1⟩ : ∃ f1, gs[j]? = some f1 := ⟨gs[j], List.getElem?_eq_getElem hjl⟩
            have hdrop : gs.drop j = f1 :: gs.drop (j + 1) := by
              rw [List.drop_eq_getElem_cons hjl]
              congr 1
              have := List.getElem?_eq_getElem hjl
              rw [hf1] at this
              injection this with this
              exact this.symm
            rcases HBF.out with ⟨h, h2, _⟩ | ⟨g1, hB1, hg1, hg2, hg3⟩
            · rw [h2] at hjl; cases hjl
            · have hln1 := HLN.out
              rw [hdrop] at hln1
              have hfn := (hln1.each f1 (List.mem_cons_self ..)).1
              have hn4 : p4.n = p1.n := hln1.n
              have hfew := hwy.few
              have hf1k : f1 < 1024 := by omega
              have hd3 : d < 3 := by omega
              have HLN1 := Lib.hid hln1.step
              have hrow4 : OwnN wr w7.heap.size B cap gs := HOWN.out.same fun b hb => hm4.block b (by rw [hB1] at hb; injection hb with hb; injection hb with hb; omega) (HROW.out b hb)
              subst hB1
              have e5 : wr.cell? ⟨g1, j, none⟩ = some (.int .i64 (f1 : Int)) := hrow4.elem hf1
              have hpc : wr.cell? ⟨w3.heap.size, d, none⟩ = some (.int .i64 ((num (A.toNat / 4096) (4 - d) : Nat) : Int)) := path_cell hpx (by omega)
              obtain ⟨nm, hnm⟩ : ∃ nm, nm = num (A.toNat / 4096) (4 - d) := ⟨_, rfl⟩
              rw [← hnm] at hpc
              have hnl : nm < 512 := by rw [hnm]; exact num_lt _ _
              have hwd := link_word hf1k
              have HNM := Lib.hid hnm
              have HWD := Lib.hid hwd
              have HDK := Lib.hid hdk
              have HEQ := Lib.hid heq
              clear hf1 hdrop hln1 hrow4 HLN hnm hwd hpx hlx hdk heq hn4
              go_wp2_with fail
              rw [HWD.out]
              refine (tput_any t c a root g4 nm (f1 * 4096 + 1) wr S2 p4 HC4.out.pool HT4.out (by have := hm4.size; omega) v1 v2 hnl (by omega)).mono ?_
              rintro e w9 ⟨rfl, hP9, hm9⟩
              go_wp2_with fail
              go_roundw
              case rel => exact ⟨j + 1, d + 1, f1, _, _, rfl, by go_num, by go_num, by have := HDK.out; omega, by omega, HC4.out.turn hm9 hP9 (Out.refl _ _), HM4.out.trans (Out.refl _ _) hm9, by rw [HNM.out, ← HPG.out]; exact HLN1.out⟩
              case measure => simp [intOf]; omega
          · obtain rfl : j = gs.length := by omega
            obtain rfl : d = 3 := by omega
            have hln2 := HLN.out
            rw [List.drop_length] at hln2
            have hn1 : p1.n = p.n := by rw [← HP1.out]; rfl
            have hh : 0 < hold1 l.frame := by rw [← HH1.out, upd_same]; omega
            have hp7 : l.prot ≤ 7 := by
              have h9 := of_decide_eq_false g3
              rw [HQ.out] at h9
              omega
            have hno : T.lf pgA = none := by
              have h9 := HLF.out
              rw [HPG.out]
              cases hc : T.lf (A.toNat / 4096) with
              | none => rfl
              | some y => rw [hc] at h9; cases h9
            have hfin := hln2.fin (by rw [HPG.out]; exact hpg) hno hp7 (by rw [hn1]; exact hln) hh
            have hback : upd hold1 l.frame (hold1 l.frame - 1) = hold := by
              rw [← HH1.out, upd_same]
              funext x
              by_cases e : x = l.frame
              · subst e; rw [upd_same]; omega
              · rw [upd_ne _ _ e, upd_ne _ _ e]
            rw [hback] at hfin
            have hn4 : p4.n = p1.n := hln2.n
            have hfew := hwy.few
            have hpk := fun W => tpack_any l W hp7 (by omega)
            have hl9 : l.pack < 18446744073709551616 := by have := pack_lt l hp7 (by omega); omega
            simp only [← HFR.out, ← HQ.out, ← HCP.out] at hpk
            have hpc : wr.cell? ⟨w3.heap.size, 3, none⟩ = some (.int .i64 ((num (A.toNat / 4096) 1 : Nat) : Int)) := path_cell hpx (by omega)
            rw [← HPG.out] at hpc
            have x0 : wr.cell? ⟨w.heap.size, 0, none⟩ = some (.int .i64 fr) := one_block hlx 0
            have x1 : wr.cell? ⟨w.heap.size, 1, none⟩ = some (.int .u8 q) := one_block hlx 1
            have x2 : wr.cell? ⟨w.heap.size, 2, none⟩ = some (.bool cp) := one_block hlx 2
            have h3r : w3.heap.size < wr.heap.size := by have := hm4.size; omega
            have htr : t < wr.heap.size := by have := hm4.size; omega
            have hzl : w7.heap.size ≤ wl.heap.size := k7
            have hn4p : p4.n = p.n := by omega
            have hsole := HTOOK2.out.sole
            have hsub := HTOOK2.out.sub
            obtain ⟨nm, hnm⟩ : ∃ nm, nm = num pgA 1 := ⟨_, rfl⟩
            rw [← hnm] at hpc hfin
            have hnl : nm < 512 := by rw [hnm]; exact num_lt _ _
            have HFIN := Lib.hid hfin
            have hfar : (∀ x, ¬ isNode T x → (x = l.frame ∨ 0 < hold x + leafCnt T x + slotN L2 x) → (p4.store g4 (setWord (p4.dat g4) nm l.pack)).dat x = p.dat x) ∧ (∀ x, isNode (T4.lay pgA (some l)) x → isNode T x ∨ (p4.store g4 (setWord (p4.dat g4) nm l.pack)).cnt x = 1) ∧ p.left ≤ (p4.store g4 (setWord (p4.dat g4) nm l.pack)).left + 3 := by
              obtain ⟨f1, f2, f3⟩ := hln2.fin2 (some l) (setWord (p4.dat g4) nm l.pack)
              refine ⟨fun x hn hx => ?_, f2, ?_⟩
              · rw [f1 x hn (by rw [← HH1.out]; by_cases e : x = l.frame; (· subst e; rw [upd_same]; omega); (· rw [upd_ne _ _ e]; exact hx.resolve_left e)), ← HP1.out]
                rfl
              · have h3 : p1.left = p.left := by rw [← HP1.out]; exact left_up hl1
                omega
            have HFAR := Lib.hid hfar
            clear hfar
            have HPK := Lib.hid hpk
            have HEQ := Lib.hid heq
            have HN := Lib.hid hn4p
            clear hln2 hn1 hno hfin hback hn4 hpk hpx hlx hnm HLN heq hn4p hdk
            go_wp2_with fail
            go_region_with
              ((first
                | (go_at_call 79; refine (HPK.out _).mono ?_; rintro e w9 ⟨rfl, hb9'⟩; have hb9 : Below wr.heap.size wr w9 := below_undrew hb9'; have hpc' : w9.cell? ⟨w3.heap.size, 3, none⟩ = some (.int .i64 (nm : Int)) := (hb9.cell (p := ⟨w3.heap.size, 3, none⟩) h3r).trans hpc)
                | (go_at_call 78; refine (tput_any t c a root g4 nm l.pack _ S2 _ (HC4.out.pool.below hb9) ((hb9.block t htr).trans HT4.out) (by have := hb9.size; omega) v1 v2 hnl hl9).mono ?_; rintro e w10 ⟨rfl, hP10, hm10⟩)))
            all_goals
              go_wp2_with fail
              go_ret
              have hmA : Mod (Both S m) w w7 := (Mod.of hB6).trans (Out.refl _ _) (hm7.sub fun b hb => .inl hb)
              exact ⟨0, _, _, _, S2, rfl, (HC4.out.below hb9).turn hm10 hP10 (Out.refl _ _), (hmA.trans (Out.refl _ _) hm2).trans (fun b hb => (ho2 b hb).imp .inl (fun h => by omega)) (HM4.out.trans (Out.refl _ _) ((Mod.of hb9).trans (Out.refl _ _) hm10)), fun b hb => (ho2 b hb).imp id (fun h => by omega), ⟨by rw [← HPG.out]; exact HFIN.out.1, HN.out, hsole, hsub, .inr ⟨rfl, by rw [← HPG.out]; exact HFIN.out.2.1, HFIN.out.2.2.1, HFIN.out.2.2.2⟩⟩, HFAR.out.1, .inr ⟨rfl, HFAR.out.2.1, HFAR.out.2.2⟩⟩

theorem tmap_go (t c a root fs m : Nat) (clock : Int) (A fr q : Int) (cp : Bool) (w : World) (S : Nat → Prop) (p : Pool) (T : Tab) (L : List Slot) (hold : Nat → Nat) (pg0 : Nat) (l : Leaf)
    (h : CacheAt w S c a fs m clock p L) (ht : TabSelf w t c a root) (htS : ¬ S t) (htm : t ≠ m) (hg : T.Good p (held L hold) pg0 4) (hr : T.nd 4 0 = some root) (hA0 : 0 ≤ A) (hA : A < 140737488355328) (hA2 : A % 4096 = 0) (h7 : ¬ 7 < q) (hcnt : countB p fr ≠ 0)
    (hlf : (T.lf (A.toNat / 4096)).isSome = false) (hfr : fr = (l.frame : Int)) (hq : q = (l.prot : Int)) (hcp : cp = l.copy) (hln : l.frame < p.n) (hl1 : 1 ≤ p.cnt l.frame) (hcap : p.cnt l.frame + 1 < 1000000000000) :
    Calls Tryz.prog 20 #[.pointer (some ⟨t, 0, none⟩), .int .u64 A, .agg #[.int .i64 fr, .int .u8 q, .bool cp]] w (MapPost w S c a fs m clock p T L hold (A.toNat / 4096) l) :=
  (tmap_go2 t c a root fs m clock A fr q cp w S p T L hold pg0 l h ht htS htm hg hr hA0 hA hA2 h7 hcnt hlf hfr hq hcp hln hl1 hcap).mono fun e w' ⟨r, p', T', L', S', h1, h2, h3, h4, h5, _⟩ => ⟨r, p', T', L', S', h1, h2, h3, h4, h5⟩

end Go.Proofs.YtkkmcnngpahfaaaGreatDoor
