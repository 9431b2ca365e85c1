/- The cache: Take. -/
import Derived.Test.YtmkgdgfbdmjeeaaDoorCaC
import Derived.Test.YtmkgdgfbdmjeeaaDoorTtG
import Derived.StillTailTactics
namespace Go.Proofs.YtmkgdgfbdmjeeaaDoor
open Go.RowKit Go.Maps Go.WideMaps Go.Sort
open Go.ChangeMaps (setBlock)
set_option linter.unusedSimpArgs false
set_option linter.unusedVariables false

/-- A cache in memory: its pool (in S), its slots. -/
structure CacheAt (w : World) (S : Nat → Prop) (c a fs m : Nat) (clock : Int) (p : Pool) (L : List Slot) : Prop where
  pool : PoolAt w S a p
  self : CacheSelf w c a fs m clock
  slots : SlotsAt w m L
  noC : ¬ S c
  noM : ¬ S m
theorem CacheAt.lts {w : World} {S : Nat → Prop} {c a fs m : Nat} {clock : Int} {p : Pool} {L : List Slot} (h : CacheAt w S c a fs m clock p L) : c < w.heap.size ∧ m < w.heap.size ∧ c ≠ m ∧ m ≠ 0 := by
  have h1 : c < w.heap.size := (Array.getElem?_eq_some_iff.1 h.self).1
  refine ⟨h1, h.slots.lt, fun e => ?_, fun e => ?_⟩
  · obtain ⟨es, clk, h2⟩ := h.slots
    have h3 := h2.block
    have h4 := h.self
    unfold CacheSelf at h4
    rw [← e, h4] at h3
    cases h3
  · obtain ⟨es, clk, h2⟩ := h.slots
    have h3 := h2.block
    have h4 := h.pool.tab 0 (by decide)
    unfold World.cell? at h4
    rw [e] at h3
    simp [h3] at h4
theorem CacheAt.mod {w w' : World} {S T : Nat → Prop} {c a fs m : Nat} {clock : Int} {p : Pool} {L : List Slot} (h : CacheAt w S c a fs m clock p L) (hm : Mod T w w') (hS : ∀ b, S b → ¬ T b) (h0 : ¬ T 0) (hc : ¬ T c) (hmm : ¬ T m) : CacheAt w' S c a fs m clock p L :=
  ⟨h.pool.mod hm hS h0, (hm.block c h.lts.1 hc).trans h.self, h.slots.same (hm.block m h.lts.2.1 hmm), h.noC, h.noM⟩
theorem CacheAt.below {w w' : World} {S : Nat → Prop} {c a fs m : Nat} {clock : Int} {p : Pool} {L : List Slot} (h : CacheAt w S c a fs m clock p L) (hb : Below w.heap.size w w') : CacheAt w' S c a fs m clock p L :=
  ⟨h.pool.below hb, (hb.block c h.lts.1).trans h.self, h.slots.same (hb.block m h.lts.2.1), h.noC, h.noM⟩
/-- The pool alone is turned. -/
theorem CacheAt.turn {w w' : World} {S S' : Nat → Prop} {c a fs m : Nat} {clock : Int} {p p' : Pool} {L : List Slot} (h : CacheAt w S c a fs m clock p L) (hm : Mod S w w') (hp : PoolAt w' S' a p') (ho : Out S S' w) : CacheAt w' S' c a fs m clock p' L :=
  ⟨hp, (hm.block c h.lts.1 h.noC).trans h.self, h.slots.same (hm.block m h.lts.2.1 h.noM), fun e => by
    rcases ho c e with h1 | h1
    · exact h.noC h1
    · have := h.lts.1; omega, fun e => by
    rcases ho m e with h1 | h1
    · exact h.noM h1
    · have := h.lts.2.1; omega⟩
/-- The pool's blocks, and the slots'. -/
def Both (S : Nat → Prop) (m : Nat) : Nat → Prop := fun b => S b ∨ b = m

/-- What Take comes to. -/
inductive TakeRes (p : Pool) (L : List Slot) : Int → Nat → Pool → List Slot → Prop
  | free (f : Nat) : p.lowest = some f → TakeRes p L 0 f (p.takeAt f) L
  | loose (s : Slot) : p.lowest = none → s ∈ L → s.frame < p.n → p.cnt s.frame = 1 → (∀ t ∈ L, countB p t.frame = 1 → s.asked ≤ t.asked) → TakeRes p L 0 s.frame ((p.down s.frame).takeAt s.frame) (L.filter fun x => !Slot.at s.ino s.page x)
  | none : p.lowest = none → (∀ t ∈ L, countB p t.frame ≠ 1) → TakeRes p L 4 0 p L
def CTakePost (w : World) (S : Nat → Prop) (c a fs m : Nat) (clock : Int) (p : Pool) (L : List Slot) (e : Ending) (w' : World) : Prop :=
  ∃ r f p' L' S', e = .returned (.tuple #[.int .i64 (f : Nat), .int .i64 r]) ∧ CacheAt w' S' c a fs m clock p' L' ∧ Mod (Both S m) w w' ∧ Out S S' w ∧ TakeRes p L r f p' L'

theorem countB_one {p : Pool} {g : Nat} (h : countB p (g : Int) = 1) : g < p.n ∧ p.cnt g = 1 := by
  unfold countB at h
  by_cases h1 : takenB p (g : Int) = true
  · rw [if_pos h1, Int.toNat_natCast] at h
    rw [takenB_nat] at h1
    exact ⟨(of_decide_eq_true h1).1, h⟩
  · rw [if_neg h1] at h
    cases h
theorem lowest_down {p : Pool} {g : Nat} (h : p.lowest = none) (hg : g < p.n) (h1 : p.cnt g = 1) : (p.down g).lowest = some g := by
  have hn := lowest_none h
  refine lowest_is hg ?_ fun x hx => ?_
  · simp only [Pool.down, upd_same]; omega
  · simp only [Pool.down, upd_ne _ _ (show x ≠ g by omega)]
    exact hn x (by omega)

theorem wpList_delete_slots {ops : Array Oper} {rest : List Oper} {o : Oper} {A : Act} {w : World} {Q : Exit → Act → World → Prop} (hg : o.guard = none) (x y : Operand) (hop : o.op = Op.call { callee := Callee.builtin Builtin.delete, args := #[x, y], argTypes := #[134, 138] })
    (m : Nat) (L : List Slot) (s : Slot) (hx : A.eval x = .map (some m)) (hy : A.eval y = .agg #[.int .i64 s.ino, .int .i64 s.page]) (h : SlotsAt w m L) (hs : s ∈ L)
    (hK : ∀ w', SlotsAt w' m (L.filter fun x => !Slot.at s.ino s.page x) → Mod (fun j => j = m) w w' → w'.heap.size = w.heap.size → wpList Tryd.prog ops Q rest (A.put o.dst (.tuple #[])) w') :
    wpList Tryd.prog ops Q (o :: rest) A w := by
  refine wpList_plain hg fun K' hK' => ?_
  obtain ⟨es, clk, h1⟩ := h
  obtain ⟨es', hrun, h2⟩ := h1.drop hs o.type
  have hrun' : (Builtin.delete_ #[134, 138] o.type #[.map (some m), .agg #[.int .i64 s.ino, .int .i64 s.page]]).run Tryd.prog w = .ok (.tuple #[]) (setBlock w m (.map es' clk)) := hrun
  unfold Oper.wp
  simp [execOp, hop, resolve, invoke, builtin, hx, hy, hrun', Result.andThen]
  exact hK' _ _ (hK _ ⟨es', clk, h2⟩ setBlock_mod setBlock_size)

set_option maxRecDepth 100000 in
set_option maxHeartbeats 4000000 in
theorem ctake_any (c a fs m : Nat) (clock : Int) (w : World) (S : Nat → Prop) (p : Pool) (L : List Slot) (h : CacheAt w S c a fs m clock p L) :
    Calls Tryd.prog 35 #[.pointer (some ⟨c, 0, none⟩)] w (CTakePost w S c a fs m clock p L) := by
  obtain ⟨hcw, hmw, hcm, hm0⟩ := h.lts
  have c0 : w.cell? ⟨c, 0, none⟩ = some (.pointer (some ⟨a, 0, none⟩)) := one_block h.self 0
  have H := Lib.hid h
  clear h
  cases hl : p.lowest with
  | some g =>
    have HL := Lib.hid hl
    clear hl
    go_enter Tryd.func35, Tryd.ntmps35
    go_wp2_with fail
    refine (take_some a g w S p H.out.pool HL.out).mono ?_
    rintro e w1 ⟨rfl, S', hP1, hm1, ho1⟩
    go_wp2_with fail
    go_ret2
    exact ⟨0, g, _, L, S', rfl, H.out.turn hm1 hP1 ho1, hm1.sub fun b hb => .inl hb, ho1, .free g HL.out⟩
  | none =>
    have HL := Lib.hid hl
    clear hl
    go_enter Tryd.func35, Tryd.ntmps35
    go_wp2_with fail
    refine (take_none a w S p H.out.pool HL.out).mono ?_
    rintro e w1 ⟨rfl, rfl⟩
    go_wp2_with fail
    refine (oldest_any c a fs m clock w S p L H.out.pool H.out.self H.out.slots).mono ?_
    rintro e w2 ⟨found, bi, bp, rfl, hbest, hb2⟩
    cases found with
    | false =>
      have HB := Lib.hid hbest
      clear hbest
      go_wp2_with fail
      go_ret2
      rcases HB.out with ⟨_, h2⟩ | ⟨h1, _⟩
      · exact ⟨4, 0, p, L, S, rfl, H.out.below (hb2.alloc hb2.size _), Mod.of (hb2.alloc hb2.size _), Out.refl _ _, .none HL.out fun t ht => h2 t ht (by simp)⟩
      · cases h1
    | true =>
      rcases hbest with ⟨h9, _⟩ | ⟨_, s, hs, rfl, rfl, hc1, hmin⟩
      · cases h9
      go_upto_region 9 with (fail)
      obtain ⟨hsn, hs1⟩ := countB_one hc1
      have hmin' : ∀ t ∈ L, countB p t.frame = 1 → s.asked ≤ t.asked := fun t ht h2 => hmin t ht (by simp) h2
      obtain ⟨w3, hw3⟩ : ∃ w3, w3 = w2.alloc (.cells #[.int .i64 s.ino, .int .i64 s.page] 138) := ⟨_, rfl⟩
      rw [← hw3]
      have hB3 : Below w.heap.size w w3 := by rw [hw3]; exact hb2.alloc hb2.size _
      have hk3 : w3.heap[w2.heap.size]? = some (.cells #[.int .i64 s.ino, .int .i64 s.page] 138 (0, 0)) := by rw [hw3]; exact heap_alloc_new _ _
      have hs3 : w2.heap.size < w3.heap.size := by rw [hw3]; simp
      have hz2 := hb2.size
      have hC3 := H.out.below hB3
      have d0 : w3.cell? ⟨c, 0, none⟩ = some (.pointer (some ⟨a, 0, none⟩)) := one_block hC3.self 0
      have d1 : w3.cell? ⟨c, 2, none⟩ = some (.map (some m)) := one_block hC3.self 2
      have d2 : w3.cell? ⟨w2.heap.size, 0, none⟩ = some (.int .i64 s.ino) := one_block hk3 0
      have d3 : w3.cell? ⟨w2.heap.size, 1, none⟩ = some (.int .i64 s.page) := one_block hk3 1
      have hlk := (hC3.slots.same (w' := w3.drew) rfl).lookS hs
      have hfl := held_frame (.int .i64 (s.frame : Int)) (.int .i64 s.asked)
      have hkS : ¬ S w2.heap.size := fun e => by have := H.out.pool.low _ e; omega
      have HC3 := Lib.hid hC3
      have HK3 := Lib.hid hk3
      have HMIN := Lib.hid hmin'
      have HS := Lib.hid hs
      clear hw3 hC3 hk3 hmin hmin' c0 hs
      go_still_tail 11, (by kernel_rfl)
      go_wp2_with fail
      refine (down_yes a s.frame _ S p (HC3.out.pool.drew) hsn (by omega)).mono ?_
      rintro e w4 ⟨rfl, hP4, hm4'⟩
      have hm4 := hm4'.undrew
      have hz4 := hm4.size
      have hC4 := HC3.out.turn hm4 hP4 (Out.refl _ _)
      have hk4 := (hm4.block _ hs3 hkS).trans HK3.out
      clear d0 d1 d2 d3 hlk hfl hm4'
      have d1 : w4.cell? ⟨c, 2, none⟩ = some (.map (some m)) := one_block hC4.self 2
      have d2 : w4.cell? ⟨w2.heap.size, 0, none⟩ = some (.int .i64 s.ino) := one_block hk4 0
      have d3 : w4.cell? ⟨w2.heap.size, 1, none⟩ = some (.int .i64 s.page) := one_block hk4 1
      have hsl4 := hC4.slots.same (w' := w4.drew) rfl
      have HC4 := Lib.hid hC4
      clear hC4 hk4
      go_upto_region 10 with (fail)
      go_still_tail 5, (by kernel_rfl)
      go_upto_region 11 with ((first
        | (refine wpList_delete_slots rfl _ _ rfl m L s rfl rfl hsl4 HS.out ?_; intro w5 hsl5 hm5' hs5; go_frame)
        | fail))
      have hm5 := hm5'.undrew
      have hP5 := HC4.out.pool.mod hm5 (fun b hb e => H.out.noM (e ▸ hb)) (fun e => hm0 e.symm)
      have hC5 : CacheAt w5 S c a fs m clock (p.down s.frame) (L.filter fun x => !Slot.at s.ino s.page x) := ⟨hP5, (hm5.block c HC4.out.lts.1 hcm).trans HC4.out.self, hsl5, H.out.noC, H.out.noM⟩
      have c0 : w5.cell? ⟨c, 0, none⟩ = some (.pointer (some ⟨a, 0, none⟩)) := one_block hC5.self 0
      have HC5 := Lib.hid hC5
      clear hC5 hP5 hsl5 hsl4 d1 d2 d3
      go_wp2_with fail
      refine (take_some a s.frame w5 S _ HC5.out.pool (lowest_down HL.out hsn hs1)).mono ?_
      rintro e w6 ⟨rfl, S', hP6, hm6, ho6⟩
      go_wp2_with fail
      go_ret2
      have hmall : Mod (Both S m) w w5 := (Mod.of hB3).trans (Out.refl _ _) ((hm4.sub fun b hb => .inl hb).trans (Out.refl _ _) (hm5.sub fun b hb => .inr hb))
      exact ⟨0, s.frame, _, _, S', rfl, HC5.out.turn hm6 hP6 ho6, hmall.trans (Out.refl _ _) (hm6.sub fun b hb => .inl hb), fun b hb => (ho6 b hb).imp id fun e => Nat.le_trans hmall.size e, .loose s HL.out HS.out hsn hs1 HMIN.out⟩

end Go.Proofs.YtmkgdgfbdmjeeaaDoor
