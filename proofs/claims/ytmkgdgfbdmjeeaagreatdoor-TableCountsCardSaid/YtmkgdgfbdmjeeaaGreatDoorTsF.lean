/- What is done with a table that was freed. (Printed by wip/bin/gen_tsf.py out of the texts on a table that is there.) -/
import Derived.Test.YtmkgdgfbdmjeeaaGreatDoorTsZ
import Derived.Test.YtmkgdgfbdmjeeaaGreatDoorLwB
import Derived.Test.YtmkgdgfbdmjeeaaGreatDoorVqE

namespace Go.Proofs.YtmkgdgfbdmjeeaaGreatDoor
namespace Freed
open Go.RowKit Go.Sort
set_option linter.unusedSimpArgs false
set_option linter.unusedVariables false

/-- The table has no pool. -/
def TabSelf (w : World) (t c a root : Nat) : Prop := w.cell? ⟨t, 1, none⟩ = some (.pointer none)
theorem TabSelf.keep {w w' : World} {t c a root : Nat} (h : w'.heap[t]? = w.heap[t]?) (ht : TabSelf w t c a root) : TabSelf w' t c a root := by
  unfold TabSelf at ht ⊢
  rw [← ht]
  simp only [World.cell?, h]
theorem TabSelf.gone {w : World} {t c a root : Nat} (ht : TabSelf w t c a root) : TabGone w (some ⟨t, 0, none⟩) := ⟨t, rfl, ht⟩
structure GoodF (s : Sta) : Prop where
  cnt : ∀ f, f < s.p.n → s.p.cnt f = leafCnt s.T f + nodeCnt s.T f + held s.L (cntH s.hold) f
structure Fine (s : Sta) (n k : Nat) : Prop where
  good : GoodF s
  zero : ∀ f, leafCnt s.T f = 0 ∧ nodeCnt s.T f = 0
  sole : Sole s.L
  size : s.p.n = n
  few : s.L.length ≤ k ∧ s.hold.length ≤ k ∧ 0 ≤ s.clock ∧ s.clock ≤ k
  low : ∀ f ∈ s.hold, f < n
  slow : ∀ x ∈ s.L, x.frame < n
  keys : ∀ x ∈ s.L, x.ino = 1 ∧ 0 ≤ x.page ∧ x.page < 16
inductive DoRes (o : Op) (s : Sta) : Told → Sta → Prop
  | refused : 0 ≤ o.kind → o.kind ≤ 3 → DoRes o s (.err 2) s
  | take (r : Int) (f : Nat) (p' : Pool) (L' : List Slot) : o.kind = 4 → TakeRes s.p s.L r f p' L' → DoRes o s ⟨f, noLeaf, r⟩ ⟨p', s.T, L', s.clock, if r = 0 then s.hold ++ [f] else s.hold⟩
  | get (r : Int) (f : Nat) (p' : Pool) (L' : List Slot) (clock' : Int) : o.kind = 5 → GetRes 1 o.n 0 (fileK o.n) (fileD o.n) s.p s.L s.clock r f p' L' clock' → DoRes o s ⟨f, noLeaf, r⟩ ⟨p', s.T, L', clock', s.hold⟩
  | give (f : Nat) : o.kind = 6 → 0 ≤ o.n → s.hold[o.n.toNat]? = some f → DoRes o s (.err 0) ⟨s.p.down f, s.T, s.L, s.clock, s.hold.eraseIdx o.n.toNat⟩
  | giveNone : o.kind = 6 → (o.n < 0 ∨ (s.hold.length : Int) ≤ o.n) → DoRes o s (.err 0) s
  | other : o.kind < 0 ∨ 7 < o.kind → DoRes o s (.err 0) s
  | free : o.kind = 7 → DoRes o s (.err 0) s

theorem Fine.even {s : Sta} {n k : Nat} (h : Fine s n k) : Even s.p s.L (cntH s.hold) := fun f hf => by
  have h1 := h.good.cnt f hf
  have h2 := h.zero f
  unfold held at h1
  omega
theorem GoodF.of {s : Sta} (h : Even s.p s.L (cntH s.hold)) (h0 : ∀ f, leafCnt s.T f = 0 ∧ nodeCnt s.T f = 0) : GoodF s := ⟨fun f hf => by
  have h1 := h f hf
  have h2 := h0 f
  unfold held
  omega⟩
/-- Get, of whatever file: the counts. -/
theorem even_get {ino page r0 : Int} {k : Nat} {d : Nat → Nat} {p p' : Pool} {L L' : List Slot} {hold : Nat → Nat} {clock clock' r : Int} {f : Nat} (h : Even p L hold) (hS : Sole L) (hg : GetRes ino page r0 k d p L clock r f p' L' clock') : Even p' L' hold ∧ p'.n = p.n := by
  cases hg with
  | bad h1 => exact ⟨h, rfl⟩
  | err h1 h2 h3 => exact ⟨h, rfl⟩
  | hit s h0 h1 hr hs =>
    obtain ⟨hs, hi, hp⟩ := find_some_at hs
    refine ⟨fun g hg => ?_, rfl⟩
    rw [slotN_old (s0 := s) (s := ⟨ino, page, s.frame, clock + 1⟩) hS hs hi hp rfl]
    exact h g hg
  | full h0 h1 hr hn ht => exact ⟨h, rfl⟩
  | miss f p1 L1 h0 h1 hr hn ht =>
    have hT := h.take hS ht
    have hno := none_sub (find_none_any hn) ht.sub
    refine ⟨fun g hg => ?_, hT.n⟩
    rw [slotN_new (s := ⟨ino, page, f, clock + 1⟩) hno]
    have h3 := hT.even g hg
    have h4 := hT.none
    show p1.cnt g = _
    by_cases e : g = f
    · subst e
      rw [upd_same] at h3
      rw [if_pos rfl]
      omega
    · rw [upd_ne _ _ e] at h3
      rw [if_neg (fun e1 => e e1.symm)]
      omega
theorem cntH_take {l : List Nat} {f : Nat} (h0 : cntH l f = 0) : upd (cntH l) f 1 = cntH (l ++ [f]) := by rw [cntH_snoc, h0]
theorem Fine.step {o : Op} {s s' : Sta} {x : Told} {n m : Nat} (h : Fine s n m) (hd : DoRes o s x s') : Fine s' n (m + 1) := by
  obtain ⟨h5, h6, h7, h8⟩ := h.few
  have he := h.even
  have f1 : s.L.length ≤ m + 1 := by omega
  have f2 : s.hold.length ≤ m + 1 := by omega
  have f3 : s.clock ≤ ((m + 1 : Nat) : Int) := by omega
  have same : Fine s n (m + 1) := ⟨h.good, h.zero, h.sole, h.size, ⟨f1, f2, h7, f3⟩, h.low, h.slow, h.keys⟩
  cases hd with
  | refused => exact same
  | giveNone => exact same
  | other => exact same
  | free => exact same
  | take r f p' L' _ ht =>
    rcases ht.two with rfl | ⟨rfl, rfl, rfl, rfl⟩
    · have hT := he.take h.sole ht
      have hE := hT.even
      rw [cntH_take hT.none] at hE
      refine ⟨GoodF.of (s := ⟨p', s.T, L', s.clock, _⟩) (by show Even p' L' (cntH (if (0 : Int) = 0 then s.hold ++ [f] else s.hold)); rw [if_pos rfl]; exact hE) h.zero, h.zero, hT.sole, hT.n.trans h.size, ⟨?_, ?_, h7, f3⟩, ?_, fun x hx => h.slow x (ht.sub.subset hx), fun x hx => h.keys x (ht.sub.subset hx)⟩
      · show L'.length ≤ m + 1
        have := ht.sub.length_le
        omega
      · show (if (0 : Int) = 0 then s.hold ++ [f] else s.hold).length ≤ m + 1
        rw [if_pos rfl, List.length_append, List.length_singleton]
        omega
      · show ∀ x ∈ (if (0 : Int) = 0 then s.hold ++ [f] else s.hold), x < n
        rw [if_pos rfl]
        exact snoc_low h.low (h.size ▸ hT.lt)
    · exact same
  | get r f p' L' clock' _ hg =>
    obtain ⟨hE, hn⟩ := even_get he h.sole hg
    have hlen := hg.len
    exact ⟨GoodF.of (s := ⟨p', s.T, L', clock', s.hold⟩) hE h.zero, h.zero, hg.sole h.sole, hn.trans h.size, ⟨by show L'.length ≤ _; omega, f2, by show 0 ≤ clock'; omega, by show clock' ≤ _; omega⟩, h.low, hg.slow h.size h.slow, hg.keys h.keys⟩
  | give f hk h0 hp =>
    have hpos := cntH_pos hp
    refine ⟨GoodF.of (s := ⟨s.p.down f, s.T, s.L, s.clock, _⟩) (fun g hg => ?_) h.zero, h.zero, h.sole, h.size, ⟨f1, ?_, h7, f3⟩, fun x hx => h.low x (List.mem_of_mem_eraseIdx hx), h.slow, h.keys⟩
    · have h1 : s.p.cnt g = slotN s.L g + cntH s.hold g := he g hg
      show upd s.p.cnt f (s.p.cnt f - 1) g = slotN s.L g + cntH (s.hold.eraseIdx _) g
      rw [cntH_erase hp]
      by_cases e : g = f
      · subst e
        rw [upd_same, upd_same]
        omega
      · rw [upd_ne _ _ e, upd_ne _ _ e]
        omega
    · show (s.hold.eraseIdx _).length ≤ m + 1
      have := List.length_eraseIdx_le s.hold o.n.toNat
      omega


/-- A table over a cache, and what is held; all of it lies from B on, the files below B. -/
structure OwnAt (w : World) (B o a c fs m t root : Nat) (clock : Int) (S : Nat → Prop) (p : Pool) (L : List Slot) (H : Option Addr) (cap : Nat) (hold : List Nat) : Prop where
  self : w.heap[o]? = some (.cells #[.pointer (some ⟨a, 0, none⟩), .pointer (some ⟨c, 0, none⟩), .pointer (some ⟨t, 0, none⟩), .slice H hold.length cap] 56 (0, 0))
  cache : CacheAt w S c a fs m clock p L
  tab : TabSelf w t c a root
  files : FilesAt w fs 8201 fileDat
  low : ∀ b, S b → B ≤ b
  lows : B ≤ o ∧ B ≤ c ∧ B ≤ m ∧ B ≤ t
  noS : ¬ S o ∧ ¬ S t
  ne : o ≠ c ∧ o ≠ m ∧ o ≠ t ∧ t ≠ m ∧ t ≠ c

/-- All of a table over its cache and files, in memory. -/
structure RunAt (w : World) (B o a c fs m t root : Nat) (S : Nat → Prop) (s : Sta) (H : Option Addr) (cap : Nat) : Prop where
  own : OwnAt w B o a c fs m t root s.clock S s.p s.L H cap s.hold
  row : OwnN w B H cap s.hold
  rowNo : ∀ b, H = some ⟨b, 0, none⟩ → ¬ S b ∧ b ≠ o ∧ b ≠ c ∧ b ≠ m ∧ b ≠ t
  files : ∃ w1, w1.heap.size = B ∧ FilesAt w1 fs 8201 fileDat ∧ Below B w1 w

theorem RunAt.base {w : World} {B o a c fs m t root : Nat} {S : Nat → Prop} {s : Sta} {H : Option Addr} {cap : Nat} (h : RunAt w B o a c fs m t root S s H cap) : B ≤ w.heap.size := by
  obtain ⟨w1, h1, _, h2⟩ := h.files
  rw [← h1]
  exact h2.size

theorem RunAt.lts {w : World} {B o a c fs m t root : Nat} {S : Nat → Prop} {s : Sta} {H : Option Addr} {cap : Nat} (h : RunAt w B o a c fs m t root S s H cap) : o < w.heap.size ∧ t < w.heap.size ∧ c < w.heap.size ∧ m < w.heap.size ∧ ∀ b, S b → b < w.heap.size :=
  ⟨(Array.getElem?_eq_some_iff.1 h.own.self).1, World.block_lt_of_cell? _ _ h.own.tab, h.own.cache.lts.1, h.own.cache.lts.2.1, h.own.cache.pool.low⟩

theorem RunAt.belowOf {w w' : World} {B o a c fs m t root : Nat} {S : Nat → Prop} {s : Sta} {H : Option Addr} {cap : Nat} (h : RunAt w B o a c fs m t root S s H cap) (hm : Mod (Runs S o c m t H) w w') : Below B w w' :=
  hm.below (fun b hb => by
    have hl := h.own.lows
    rcases hb with e | e | e | e | e | e
    · exact h.own.low b e
    · omega
    · omega
    · omega
    · omega
    · exact (h.row.lt b e).1) h.base

/-- The pool, the slots and boxes of the call's own are turned. -/
theorem RunAt.turn {w w0 w1 w2 : World} {B o a c fs m t root : Nat} {S S' : Nat → Prop} {s : Sta} {H : Option Addr} {cap : Nat} {clock' : Int} {p' : Pool} {L' : List Slot} (h : RunAt w B o a c fs m t root S s H cap) (hb0 : Below w.heap.size w w0) (hC : CacheAt w1 S' c a fs m clock' p' L')
    (hm : Mod (fun b => S b ∨ b = m ∨ b = c) w0 w1) (ho : Out S S' w0) (hm2 : Mod (fun b => w.heap.size ≤ b ∧ b < w0.heap.size) w1 w2) (T' : Tab) : RunAt w2 B o a c fs m t root S' ⟨p', T', L', clock', s.hold⟩ H cap ∧ Mod (Runs S o c m t H) w w2 := by
  obtain ⟨l1, l2, l3, l4, l5⟩ := h.lts
  have hB := h.base
  have hz0 := hb0.size
  have hz1 := hm.size
  have hz2 := hm2.size
  have key : ∀ b, b < w.heap.size → ¬ S b → b ≠ m → b ≠ c → w2.heap[b]? = w.heap[b]? := fun b hb h1 h2 h3 =>
    (hm2.block b (by omega) (by omega)).trans ((hm.block b (by omega) (fun e => e.elim h1 fun e => e.elim h2 h3)).trans (hb0.block b hb))
  have hbel : Below B w w2 := ⟨hm2.os.trans (hm.os.trans hb0.os), hm2.tape.trans (hm.tape.trans hb0.tape), hm2.output.trans (hm.output.trans hb0.output), by omega, fun b hb => key b (by omega) (fun e => by have := h.own.low b e; omega) (by have := h.own.lows; omega) (by have := h.own.lows; omega)⟩
  have hO := h.own
  obtain ⟨wf, hf1, hf2, hf3⟩ := h.files
  have hf4 : Below B wf w2 := hf3.trans hbel
  have hS' : ∀ b, S' b → S b ∨ w0.heap.size ≤ b := ho
  refine ⟨⟨⟨(key o l1 hO.noS.1 hO.ne.2.1 hO.ne.1).trans hO.self, hC.mod hm2 (fun b hb e => (hS' b hb).elim (fun e2 => by have := l5 b e2; omega) (fun e2 => by omega)) (fun e => by have := hO.cache.pool.pos; omega) (by omega) (by omega), TabSelf.keep (key t l2 hO.noS.2 hO.ne.2.2.2.1 hO.ne.2.2.2.2) hO.tab, hf2.below hf1 hf4, fun b hb => (hS' b hb).elim (hO.low b) (fun e => by omega), hO.lows, ⟨fun e => (hS' o e).elim hO.noS.1 (by omega), fun e => (hS' t e).elim hO.noS.2 (by omega)⟩, hO.ne⟩, h.row.same fun g hg => ?_, fun b hb => ?_, ⟨wf, hf1, hf2, hf4⟩⟩, ⟨hbel.os, hbel.tape, hbel.output, hbel.size, fun b hb hn => key b hb (fun e => hn (.inl e)) (fun e => hn (.inr (.inr (.inr (.inl e))))) (fun e => hn (.inr (.inr (.inl e))))⟩⟩
  · obtain ⟨n1, n2, n3, n4, n5⟩ := h.rowNo g hg
    exact key g (h.row.lt g hg).2 n1 n4 n3
  · obtain ⟨n1, n2, n3, n4, n5⟩ := h.rowNo b hb
    have := (h.row.lt b hb).2
    exact ⟨fun e => (hS' b e).elim n1 (by omega), n2, n3, n4, n5⟩

def DoesPost (w : World) (B o a c fs m t root : Nat) (S : Nat → Prop) (H : Option Addr) (op : Op) (s : Sta) (e : Ending) (w' : World) : Prop :=
  ∃ x s' S' H' cap', e = .returned x.val ∧ RunAt w' B o a c fs m t root S' s' H' cap' ∧ Mod (Runs S o c m t H) w w' ∧ DoRes op s x s'

theorem DoRes.takeNo {o : Op} {s : Sta} (h : o.kind = 4) (ht : TakeRes s.p s.L 4 0 s.p s.L) : DoRes o s (.err 4) ⟨s.p, s.T, s.L, s.clock, s.hold⟩ := DoRes.take 4 0 s.p s.L h ht

theorem DoRes.takeYes {o : Op} {s : Sta} {f : Nat} {p' : Pool} {L' : List Slot} (h : o.kind = 4) (ht : TakeRes s.p s.L 0 f p' L') : DoRes o s ⟨f, noLeaf, 0⟩ ⟨p', s.T, L', s.clock, s.hold ++ [f]⟩ := DoRes.take 0 f p' L' h ht

set_option maxRecDepth 100000 in
set_option maxHeartbeats 4000000 in
theorem does_get (B o a c fs m t root n k : Nat) (A fr q N : Int) (cp : Bool) (w : World) (S : Nat → Prop) (s : Sta) (H : Option Addr) (cap : Nat) (h : RunAt w B o a c fs m t root S s H cap) (hf : Freed.Fine s n k) (hk : k ≤ 100000) (hop : (Op.mk 5 A fr q cp N).Ok) :
    Calls Tryz.prog 11 #[.pointer (some ⟨o, 0, none⟩), .agg #[.int .i64 5, .int .u64 A, .int .i64 fr, .int .u8 q, .bool cp, .int .i64 N]] w (DoesPost w B o a c fs m t root S H ⟨5, A, fr, q, cp, N⟩ s) := by
  have hO := h.own
  obtain ⟨l1, l2, l3, l4, l5⟩ := h.lts
  have hpos := hO.cache.pool.pos
  obtain ⟨w0, hw0⟩ : ∃ w0, w0 = ((w.alloc (.cells #[.int .i64 5, .int .u64 A, .int .i64 fr, .int .u8 q, .bool cp, .int .i64 N] 38)).alloc (.cells #[.int .i64 0, .int .i64 0, .int .u8 0, .bool false, .int .i64 0] 34)).alloc (.cells #[.int .i64 0, .int .i64 0, .int .u8 0, .bool false, .int .i64 0] 34) := ⟨_, rfl⟩
  have hB0 : Below w.heap.size w w0 := by (rw [hw0]; exact (((Below.refl _ _).alloc (Nat.le_refl _) _).alloc (by simp) _).alloc (by simp; omega) _)
  have hs0 : w0.heap.size = w.heap.size + 1 + 1 + 1 := by (rw [hw0]; simp)
  have hE0 : w0.heap[w.heap.size]? = some (.cells #[.int .i64 5, .int .u64 A, .int .i64 fr, .int .u8 q, .bool cp, .int .i64 N] 38 (0, 0)) := by (rw [hw0]; exact (Below.heap_alloc _ _ _ (by simp; omega)).trans ((Below.heap_alloc _ _ _ (by simp)).trans (heap_alloc_new w _)))
  have hR0 : w0.heap[w.heap.size + 1]? = some (.cells #[.int .i64 0, .int .i64 0, .int .u8 0, .bool false, .int .i64 0] 34 (0, 0)) := by
    (rw [hw0]
     have e : (w.alloc (.cells #[.int .i64 5, .int .u64 A, .int .i64 fr, .int .u8 q, .bool cp, .int .i64 N] 38)).heap.size = w.heap.size + 1 := by simp
     rw [← e]
     exact (Below.heap_alloc _ _ _ (by simp)).trans (heap_alloc_new _ _))
  have hX0 : w0.heap[w.heap.size + 1 + 1]? = some (.cells #[.int .i64 0, .int .i64 0, .int .u8 0, .bool false, .int .i64 0] 34 (0, 0)) := by
    (rw [hw0]
     have e : ((w.alloc (.cells #[.int .i64 5, .int .u64 A, .int .i64 fr, .int .u8 q, .bool cp, .int .i64 N] 38)).alloc (.cells #[.int .i64 0, .int .i64 0, .int .u8 0, .bool false, .int .i64 0] 34)).heap.size = w.heap.size + 1 + 1 := by simp
     rw [← e]
     exact heap_alloc_new _ _)
  have hdr : Below w.heap.size w w0.drew := hB0.drew
  have e0 : w0.cell? ⟨w.heap.size, 0, none⟩ = some (.int .i64 5) := one_block hE0 0
  have e1 : w0.cell? ⟨w.heap.size, 1, none⟩ = some (.int .u64 A) := one_block hE0 1
  have e2 : w0.cell? ⟨w.heap.size, 2, none⟩ = some (.int .i64 fr) := one_block hE0 2
  have e3 : w0.cell? ⟨w.heap.size, 3, none⟩ = some (.int .u8 q) := one_block hE0 3
  have e4 : w0.cell? ⟨w.heap.size, 4, none⟩ = some (.bool cp) := one_block hE0 4
  have e5 : w0.cell? ⟨w.heap.size, 5, none⟩ = some (.int .i64 N) := one_block hE0 5
  have o0 : w0.cell? ⟨o, 0, none⟩ = some (.pointer (some ⟨a, 0, none⟩)) := (hB0.cell (p := ⟨o, 0, none⟩) l1).trans (one_block hO.self 0)
  have o1 : w0.cell? ⟨o, 1, none⟩ = some (.pointer (some ⟨c, 0, none⟩)) := (hB0.cell (p := ⟨o, 1, none⟩) l1).trans (one_block hO.self 1)
  have o2 : w0.cell? ⟨o, 2, none⟩ = some (.pointer (some ⟨t, 0, none⟩)) := (hB0.cell (p := ⟨o, 2, none⟩) l1).trans (one_block hO.self 2)
  have o3 : w0.cell? ⟨o, 3, none⟩ = some (.slice H s.hold.length cap) := (hB0.cell (p := ⟨o, 3, none⟩) l1).trans (one_block hO.self 3)
  have HRUN := Lib.hid h
  have HOWN := Lib.hid hO
  have HW0 := Lib.hid hw0
  have HE0 := Lib.hid hE0
  have HR0 := Lib.hid hR0
  have HX0 := Lib.hid hX0
  have HB0 := Lib.hid hB0
  clear h hO hw0 hE0 hR0 hX0 hB0
  have hcall := get_one c a fs m N s.clock w0.drew S s.p s.L (HOWN.out.cache.below hdr) (by obtain ⟨wf, hf1, hf2, hf3⟩ := HRUN.out.files; exact hf2.below hf1 (hf3.trans (hdr.mono HRUN.out.base))) (by have := hf.few; omega)
  have nb : ∀ b, w.heap.size ≤ b → ¬ (S b ∨ b = m ∨ b = c) := fun b hb e => by (rcases e with e | e | e; have := l5 b e; omega; omega; omega)
  have hbr : w.heap.size ≤ w.heap.size + 1 ∧ w.heap.size + 1 < w0.heap.size := by omega
  have hbx : w.heap.size ≤ w.heap.size + 1 + 1 ∧ w.heap.size + 1 + 1 < w0.heap.size := by omega
  have hcall2 : Calls Tryz.prog 46 #[.pointer (some ⟨c, 0, none⟩), .int .i64 1, .int .i64 N] w0.drew fun e w1 => ∃ r f p' L' clock' S', e = .returned (.tuple #[.int .i64 (f : Nat), .int .i64 r]) ∧ Hid (CacheAt w1 S' c a fs m clock' p' L') ∧ Hid (Mod (fun b => S b ∨ b = m ∨ b = c) w0 w1) ∧ Hid (Out S S' w0) ∧ Hid (GetRes 1 N 0 (fileK N) (fileD N) s.p s.L s.clock r f p' L' clock') ∧ BoxAt w1 (w.heap.size + 1 + 1) ∧ BoxAt w1 (w.heap.size + 1) := by
    refine hcall.mono ?_
    rintro e w1 ⟨r, f, p', L', clock', S', rfl, hC1, hm1', ho1, hres⟩
    have hm1 : Mod (fun b => S b ∨ b = m ∨ b = c) w0 w1 := hm1'.undrew
    exact ⟨r, f, p', L', clock', S', rfl, Lib.hid hC1, Lib.hid hm1, Lib.hid ho1, Lib.hid hres, told_box HX0.out hm1 (nb _ (by omega)), told_box HR0.out hm1 (nb _ (by omega))⟩
  have HC := Lib.hid hcall2
  clear hcall hcall2
  go_enter Tryz.func11, Tryz.ntmps11
  go_upto_region 1 with (fail)
  go_upto_region 16 with (fail)
  rw [← HW0.out]
  go_region_with ((first
    | (go_at_call 46; refine (HC.out).mono ?_; rintro e w1 ⟨r, f, p', L', clock', S', rfl, HC1, HM1, HO1, HRES, ⟨x0, x1, x2, x3, x4, u0, u1, u2, u3, u4, hlt2⟩, ⟨y0, y1, y2, y3, y4, z0, z1, z2, z3, z4, hlt1⟩⟩)))
  all_goals (go_wp2_with fail; exact bodyPost_ret (v := ((Told.mk (f : Int) noLeaf r)).val) (by simp [results, Tryz.results11, go_sem, Told.val, Told.err, noLeaf, hlt1, hlt2, x0, x1, x2, x3, x4, y0, y1, y2, y3, y4, u0, u1, u2, u3, u4, z0, z1, z2, z3, z4]) rfl ⟨(Told.mk (f : Int) noLeaf r), ⟨p', s.T, L', clock', s.hold⟩, S', H, cap, rfl, (HRUN.out.turn HB0.out HC1.out HM1.out HO1.out (by (repeat (refine Mod.set ?_ (by first | exact hbr | exact hbx))); exact Mod.refl _ _) s.T).1, (HRUN.out.turn HB0.out HC1.out HM1.out HO1.out (by (repeat (refine Mod.set ?_ (by first | exact hbr | exact hbx))); exact Mod.refl _ _) s.T).2, .get r f p' L' clock' rfl HRES.out⟩)

set_option maxRecDepth 100000 in
set_option maxHeartbeats 4000000 in
theorem does_other (B o a c fs m t root n k : Nat) (K A fr q N : Int) (cp : Bool) (w : World) (S : Nat → Prop) (s : Sta) (H : Option Addr) (cap : Nat) (h : RunAt w B o a c fs m t root S s H cap) (hf : Freed.Fine s n k) (hK : K < 0 ∨ 7 < K) :
    Calls Tryz.prog 11 #[.pointer (some ⟨o, 0, none⟩), .agg #[.int .i64 K, .int .u64 A, .int .i64 fr, .int .u8 q, .bool cp, .int .i64 N]] w (DoesPost w B o a c fs m t root S H ⟨K, A, fr, q, cp, N⟩ s) := by
  have hO := h.own
  obtain ⟨l1, l2, l3, l4, l5⟩ := h.lts
  have hpos := hO.cache.pool.pos
  obtain ⟨w0, hw0⟩ : ∃ w0, w0 = ((w.alloc (.cells #[.int .i64 K, .int .u64 A, .int .i64 fr, .int .u8 q, .bool cp, .int .i64 N] 38)).alloc (.cells #[.int .i64 0, .int .i64 0, .int .u8 0, .bool false, .int .i64 0] 34)).alloc (.cells #[.int .i64 0, .int .i64 0, .int .u8 0, .bool false, .int .i64 0] 34) := ⟨_, rfl⟩
  have hB0 : Below w.heap.size w w0 := by (rw [hw0]; exact (((Below.refl _ _).alloc (Nat.le_refl _) _).alloc (by simp) _).alloc (by simp; omega) _)
  have hs0 : w0.heap.size = w.heap.size + 1 + 1 + 1 := by (rw [hw0]; simp)
  have hE0 : w0.heap[w.heap.size]? = some (.cells #[.int .i64 K, .int .u64 A, .int .i64 fr, .int .u8 q, .bool cp, .int .i64 N] 38 (0, 0)) := by (rw [hw0]; exact (Below.heap_alloc _ _ _ (by simp; omega)).trans ((Below.heap_alloc _ _ _ (by simp)).trans (heap_alloc_new w _)))
  have hR0 : w0.heap[w.heap.size + 1]? = some (.cells #[.int .i64 0, .int .i64 0, .int .u8 0, .bool false, .int .i64 0] 34 (0, 0)) := by
    (rw [hw0]
     have e : (w.alloc (.cells #[.int .i64 K, .int .u64 A, .int .i64 fr, .int .u8 q, .bool cp, .int .i64 N] 38)).heap.size = w.heap.size + 1 := by simp
     rw [← e]
     exact (Below.heap_alloc _ _ _ (by simp)).trans (heap_alloc_new _ _))
  have hX0 : w0.heap[w.heap.size + 1 + 1]? = some (.cells #[.int .i64 0, .int .i64 0, .int .u8 0, .bool false, .int .i64 0] 34 (0, 0)) := by
    (rw [hw0]
     have e : ((w.alloc (.cells #[.int .i64 K, .int .u64 A, .int .i64 fr, .int .u8 q, .bool cp, .int .i64 N] 38)).alloc (.cells #[.int .i64 0, .int .i64 0, .int .u8 0, .bool false, .int .i64 0] 34)).heap.size = w.heap.size + 1 + 1 := by simp
     rw [← e]
     exact heap_alloc_new _ _)
  have hdr : Below w.heap.size w w0.drew := hB0.drew
  have e0 : w0.cell? ⟨w.heap.size, 0, none⟩ = some (.int .i64 K) := one_block hE0 0
  have e1 : w0.cell? ⟨w.heap.size, 1, none⟩ = some (.int .u64 A) := one_block hE0 1
  have e2 : w0.cell? ⟨w.heap.size, 2, none⟩ = some (.int .i64 fr) := one_block hE0 2
  have e3 : w0.cell? ⟨w.heap.size, 3, none⟩ = some (.int .u8 q) := one_block hE0 3
  have e4 : w0.cell? ⟨w.heap.size, 4, none⟩ = some (.bool cp) := one_block hE0 4
  have e5 : w0.cell? ⟨w.heap.size, 5, none⟩ = some (.int .i64 N) := one_block hE0 5
  have o0 : w0.cell? ⟨o, 0, none⟩ = some (.pointer (some ⟨a, 0, none⟩)) := (hB0.cell (p := ⟨o, 0, none⟩) l1).trans (one_block hO.self 0)
  have o1 : w0.cell? ⟨o, 1, none⟩ = some (.pointer (some ⟨c, 0, none⟩)) := (hB0.cell (p := ⟨o, 1, none⟩) l1).trans (one_block hO.self 1)
  have o2 : w0.cell? ⟨o, 2, none⟩ = some (.pointer (some ⟨t, 0, none⟩)) := (hB0.cell (p := ⟨o, 2, none⟩) l1).trans (one_block hO.self 2)
  have o3 : w0.cell? ⟨o, 3, none⟩ = some (.slice H s.hold.length cap) := (hB0.cell (p := ⟨o, 3, none⟩) l1).trans (one_block hO.self 3)
  have HRUN := Lib.hid h
  have HOWN := Lib.hid hO
  have HW0 := Lib.hid hw0
  have HE0 := Lib.hid hE0
  have HR0 := Lib.hid hR0
  have HX0 := Lib.hid hX0
  have HB0 := Lib.hid hB0
  clear h hO hw0 hE0 hR0 hX0 hB0
  have hbr : w.heap.size ≤ w.heap.size + 1 ∧ w.heap.size + 1 < w0.heap.size := by omega
  have hbx : w.heap.size ≤ w.heap.size + 1 + 1 ∧ w.heap.size + 1 + 1 < w0.heap.size := by omega
  have k0 : (K == 0) = false := by rw [beq_eq_false_iff_ne]; omega
  have k1 : (K == 1) = false := by rw [beq_eq_false_iff_ne]; omega
  have k2 : (K == 2) = false := by rw [beq_eq_false_iff_ne]; omega
  have k3 : (K == 3) = false := by rw [beq_eq_false_iff_ne]; omega
  have k4 : (K == 4) = false := by rw [beq_eq_false_iff_ne]; omega
  have k5 : (K == 5) = false := by rw [beq_eq_false_iff_ne]; omega
  have k6 : (K == 6) = false := by rw [beq_eq_false_iff_ne]; omega
  have k7 : (K == 7) = false := by rw [beq_eq_false_iff_ne]; omega
  have HK := Lib.hid hK
  have hm0 : Mod (fun b => S b ∨ b = m ∨ b = c) w0 w0 := Mod.refl _ _
  obtain ⟨x0, x1, x2, x3, x4, u0, u1, u2, u3, u4, hlt2⟩ := told_box (X := fun _ => False) HX0.out (Mod.refl _ _) id
  obtain ⟨y0, y1, y2, y3, y4, z0, z1, z2, z3, z4, hlt1⟩ := told_box (X := fun _ => False) HR0.out (Mod.refl _ _) id
  clear hK
  go_enter Tryz.func11, Tryz.ntmps11
  go_upto_region 1 with (fail)
  go_upto_region 2 with (fail)
  rw [← HW0.out]
  go_wp2_with fail
  exact bodyPost_ret (v := ((Told.err 0)).val) (by simp [results, Tryz.results11, go_sem, Told.val, Told.err, noLeaf, hlt1, hlt2, x0, x1, x2, x3, x4, y0, y1, y2, y3, y4, u0, u1, u2, u3, u4, z0, z1, z2, z3, z4]) rfl ⟨(Told.err 0), s, S, H, cap, rfl, (HRUN.out.turn HB0.out (HOWN.out.cache.below HB0.out) hm0 (Out.refl _ _) (by (repeat (refine Mod.set ?_ (by first | exact hbr | exact hbx))); exact Mod.refl _ _) s.T).1, (HRUN.out.turn HB0.out (HOWN.out.cache.below HB0.out) hm0 (Out.refl _ _) (by (repeat (refine Mod.set ?_ (by first | exact hbr | exact hbx))); exact Mod.refl _ _) s.T).2, .other HK.out⟩

theorem RunAt.mod {w w' : World} {B o a c fs m t root : Nat} {S X : Nat → Prop} {s : Sta} {H : Option Addr} {cap : Nat} (h : RunAt w B o a c fs m t root S s H cap) (hm : Mod X w w') (hX : ∀ b, X b → B ≤ b ∧ ¬ S b ∧ b ≠ o ∧ b ≠ c ∧ b ≠ m ∧ b ≠ t ∧ b ≠ 0 ∧ H ≠ some ⟨b, 0, none⟩) : RunAt w' B o a c fs m t root S s H cap := by
  obtain ⟨l1, l2, l3, l4, l5⟩ := h.lts
  have hB := h.base
  have hO := h.own
  obtain ⟨wf, hf1, hf2, hf3⟩ := h.files
  have hf4 : Below B wf w' := hf3.trans (hm.below (fun b hb => (hX b hb).1) hB)
  exact ⟨⟨(hm.block o l1 (fun e => (hX o e).2.2.1 rfl)).trans hO.self, hO.cache.mod hm (fun b hb e => (hX b e).2.1 hb) (fun e => (hX 0 e).2.2.2.2.2.2.1 rfl) (fun e => (hX c e).2.2.2.1 rfl) (fun e => (hX m e).2.2.2.2.1 rfl), TabSelf.keep (hm.block t l2 (fun e => (hX t e).2.2.2.2.2.1 rfl)) hO.tab, hf2.below hf1 hf4, hO.low, hO.lows, hO.noS, hO.ne⟩,
    h.row.same fun g hg => hm.block g (h.row.lt g hg).2 (fun e => (hX g e).2.2.2.2.2.2.2 hg), h.rowNo, ⟨wf, hf1, hf2, hf4⟩⟩

/-- Another row of what is held. -/
theorem RunAt.rehold {w w' : World} {B o a c fs m t root : Nat} {S : Nat → Prop} {s : Sta} {H H' : Option Addr} {cap cap' : Nat} {hold' : List Nat} (h : RunAt w B o a c fs m t root S s H cap) (hm : Mod (fun b => b = o ∨ H = some ⟨b, 0, none⟩) w w')
    (hO' : w'.heap[o]? = some (.cells #[.pointer (some ⟨a, 0, none⟩), .pointer (some ⟨c, 0, none⟩), .pointer (some ⟨t, 0, none⟩), .slice H' hold'.length cap'] 56 (0, 0))) (hrow : OwnN w' B H' cap' hold') (hH' : ∀ b, H' = some ⟨b, 0, none⟩ → H = some ⟨b, 0, none⟩ ∨ w.heap.size ≤ b) :
    RunAt w' B o a c fs m t root S ⟨s.p, s.T, s.L, s.clock, hold'⟩ H' cap' := by
  obtain ⟨l1, l2, l3, l4, l5⟩ := h.lts
  have hB := h.base
  have hO := h.own
  have hlow : ∀ b, (b = o ∨ H = some ⟨b, 0, none⟩) → B ≤ b := fun b hb => hb.elim (fun e => by have := hO.lows; omega) (fun e => (h.row.lt b e).1)
  have hbel : Below B w w' := hm.below hlow hB
  obtain ⟨wf, hf1, hf2, hf3⟩ := h.files
  have hf4 : Below B wf w' := hf3.trans hbel
  have hpos := hO.cache.pool.pos
  have hno0 := hO.cache.pool.no0
  have hoff : ∀ b, b ≠ o → (∀ x, H = some ⟨x, 0, none⟩ → b ≠ x) → ¬ (b = o ∨ H = some ⟨b, 0, none⟩) := fun b h1 h2 e => e.elim h1 (fun e => h2 b e rfl)
  have h0 : ¬ ((0 : Nat) = o ∨ H = some ⟨0, 0, none⟩) := fun e => by
    have hB0 : 0 < B := by
      rcases Nat.eq_zero_or_pos B with e0 | e0
      · exfalso
        obtain ⟨_, _, _, _, _, _, hF, _⟩ := hf2
        have : fs < wf.heap.size := (Array.getElem?_eq_some_iff.1 hF).1
        omega
      · exact e0
    have := hlow 0 e
    omega
  refine ⟨⟨hO', hO.cache.mod hm (fun b hb e => e.elim (fun e => hO.noS.1 (e ▸ hb)) (fun e => (h.rowNo b e).1 hb)) h0 (hoff c (fun e => hO.ne.1 e.symm) fun x hx e => (h.rowNo x hx).2.2.1 e.symm) (hoff m (fun e => hO.ne.2.1 e.symm) fun x hx e => (h.rowNo x hx).2.2.2.1 e.symm), TabSelf.keep (hm.block t l2 (hoff t (fun e => hO.ne.2.2.1 e.symm) fun x hx e => (h.rowNo x hx).2.2.2.2 e.symm)) hO.tab, hf2.below hf1 hf4, hO.low, hO.lows, hO.noS, hO.ne⟩, hrow, fun b hb => ?_, ⟨wf, hf1, hf2, hf4⟩⟩
  rcases hH' b hb with e | e
  · exact h.rowNo b e
  · exact ⟨fun e2 => by have := l5 b e2; omega, by omega, by omega, by omega, by omega⟩

set_option maxRecDepth 100000 in
set_option maxHeartbeats 4000000 in
theorem does_take (B o a c fs m t root n k : Nat) (A fr q N : Int) (cp : Bool) (w : World) (S : Nat → Prop) (s : Sta) (H : Option Addr) (cap : Nat) (h : RunAt w B o a c fs m t root S s H cap) (hf : Freed.Fine s n k) (hk : k ≤ 100000) :
    Calls Tryz.prog 11 #[.pointer (some ⟨o, 0, none⟩), .agg #[.int .i64 4, .int .u64 A, .int .i64 fr, .int .u8 q, .bool cp, .int .i64 N]] w (DoesPost w B o a c fs m t root S H ⟨4, A, fr, q, cp, N⟩ s) := by
  have hO := h.own
  obtain ⟨l1, l2, l3, l4, l5⟩ := h.lts
  have hpos := hO.cache.pool.pos
  obtain ⟨w0, hw0⟩ : ∃ w0, w0 = ((w.alloc (.cells #[.int .i64 4, .int .u64 A, .int .i64 fr, .int .u8 q, .bool cp, .int .i64 N] 38)).alloc (.cells #[.int .i64 0, .int .i64 0, .int .u8 0, .bool false, .int .i64 0] 34)).alloc (.cells #[.int .i64 0, .int .i64 0, .int .u8 0, .bool false, .int .i64 0] 34) := ⟨_, rfl⟩
  have hB0 : Below w.heap.size w w0 := by (rw [hw0]; exact (((Below.refl _ _).alloc (Nat.le_refl _) _).alloc (by simp) _).alloc (by simp; omega) _)
  have hs0 : w0.heap.size = w.heap.size + 1 + 1 + 1 := by (rw [hw0]; simp)
  have hE0 : w0.heap[w.heap.size]? = some (.cells #[.int .i64 4, .int .u64 A, .int .i64 fr, .int .u8 q, .bool cp, .int .i64 N] 38 (0, 0)) := by (rw [hw0]; exact (Below.heap_alloc _ _ _ (by simp; omega)).trans ((Below.heap_alloc _ _ _ (by simp)).trans (heap_alloc_new w _)))
  have hR0 : w0.heap[w.heap.size + 1]? = some (.cells #[.int .i64 0, .int .i64 0, .int .u8 0, .bool false, .int .i64 0] 34 (0, 0)) := by
    (rw [hw0]
     have e : (w.alloc (.cells #[.int .i64 4, .int .u64 A, .int .i64 fr, .int .u8 q, .bool cp, .int .i64 N] 38)).heap.size = w.heap.size + 1 := by simp
     rw [← e]
     exact (Below.heap_alloc _ _ _ (by simp)).trans (heap_alloc_new _ _))
  have hX0 : w0.heap[w.heap.size + 1 + 1]? = some (.cells #[.int .i64 0, .int .i64 0, .int .u8 0, .bool false, .int .i64 0] 34 (0, 0)) := by
    (rw [hw0]
     have e : ((w.alloc (.cells #[.int .i64 4, .int .u64 A, .int .i64 fr, .int .u8 q, .bool cp, .int .i64 N] 38)).alloc (.cells #[.int .i64 0, .int .i64 0, .int .u8 0, .bool false, .int .i64 0] 34)).heap.size = w.heap.size + 1 + 1 := by simp
     rw [← e]
     exact heap_alloc_new _ _)
  have hdr : Below w.heap.size w w0.drew := hB0.drew
  have e0 : w0.cell? ⟨w.heap.size, 0, none⟩ = some (.int .i64 4) := one_block hE0 0
  have e1 : w0.cell? ⟨w.heap.size, 1, none⟩ = some (.int .u64 A) := one_block hE0 1
  have e2 : w0.cell? ⟨w.heap.size, 2, none⟩ = some (.int .i64 fr) := one_block hE0 2
  have e3 : w0.cell? ⟨w.heap.size, 3, none⟩ = some (.int .u8 q) := one_block hE0 3
  have e4 : w0.cell? ⟨w.heap.size, 4, none⟩ = some (.bool cp) := one_block hE0 4
  have e5 : w0.cell? ⟨w.heap.size, 5, none⟩ = some (.int .i64 N) := one_block hE0 5
  have o0 : w0.cell? ⟨o, 0, none⟩ = some (.pointer (some ⟨a, 0, none⟩)) := (hB0.cell (p := ⟨o, 0, none⟩) l1).trans (one_block hO.self 0)
  have o1 : w0.cell? ⟨o, 1, none⟩ = some (.pointer (some ⟨c, 0, none⟩)) := (hB0.cell (p := ⟨o, 1, none⟩) l1).trans (one_block hO.self 1)
  have o2 : w0.cell? ⟨o, 2, none⟩ = some (.pointer (some ⟨t, 0, none⟩)) := (hB0.cell (p := ⟨o, 2, none⟩) l1).trans (one_block hO.self 2)
  have o3 : w0.cell? ⟨o, 3, none⟩ = some (.slice H s.hold.length cap) := (hB0.cell (p := ⟨o, 3, none⟩) l1).trans (one_block hO.self 3)
  have HRUN := Lib.hid h
  have HOWN := Lib.hid hO
  have HW0 := Lib.hid hw0
  have HE0 := Lib.hid hE0
  have HR0 := Lib.hid hR0
  have HX0 := Lib.hid hX0
  have HB0 := Lib.hid hB0
  clear h hO hw0 hE0 hR0 hX0 hB0
  have nb : ∀ b, w.heap.size ≤ b → ¬ (S b ∨ b = m ∨ b = c) := fun b hb e => by (rcases e with e | e | e; have := l5 b e; omega; omega; omega)
  have hbr : w.heap.size ≤ w.heap.size + 1 ∧ w.heap.size + 1 < w0.heap.size := by omega
  have hbx : w.heap.size ≤ w.heap.size + 1 + 1 ∧ w.heap.size + 1 + 1 < w0.heap.size := by omega
  have hcall := ctake_any c a fs m s.clock w0 S s.p s.L (HOWN.out.cache.below HB0.out)
  have HC := Lib.hid hcall
  have hfew := hf.few
  clear hcall
  go_enter Tryz.func11, Tryz.ntmps11
  go_upto_region 1 with (fail)
  go_upto_region 12 with (fail)
  rw [← HW0.out]
  go_upto_region 13 with (first
    | (go_at_call 45; refine (HC.out).mono ?_; rintro e w1 ⟨r, f, p', L', S', rfl, hC1, hm1', ho1, hres⟩; have hm1 : Mod (fun b => S b ∨ b = m ∨ b = c) w0 w1 := hm1'.sub (fun b hb => hb.elim .inl fun e => .inr (.inl e)); have HC1 := Lib.hid hC1; have HM1 := Lib.hid hm1; have HO1 := Lib.hid ho1; have HRES := Lib.hid hres; obtain ⟨x0, x1, x2, x3, x4, u0, u1, u2, u3, u4, hlt2⟩ := told_box HX0.out hm1 (nb _ (by omega)); obtain ⟨y0, y1, y2, y3, y4, z0, z1, z2, z3, z4, hlt1⟩ := told_box HR0.out hm1 (nb _ (by omega)); clear hC1 hm1 hm1' ho1 hres)
    | fail)
  rcases HRES.out.duo with rfl | ⟨rfl, rfl, rfl, rfl⟩
  rotate_left
  · clear e0 e1 e2 e3 e4 e5 o0 o1 o2 o3
    go_wp2_with fail
    exact bodyPost_ret (v := ((Told.err 4)).val) (by simp [results, Tryz.results11, go_sem, Told.val, Told.err, noLeaf, hlt1, hlt2, x0, x1, x2, x3, x4, y0, y1, y2, y3, y4, u0, u1, u2, u3, u4, z0, z1, z2, z3, z4]) rfl ⟨(Told.err 4), ⟨s.p, s.T, s.L, s.clock, s.hold⟩, S', H, cap, rfl, (HRUN.out.turn HB0.out HC1.out HM1.out HO1.out (by (repeat (refine Mod.set ?_ (by first | exact hbr | exact hbx))); exact Mod.refl _ _) s.T).1, (HRUN.out.turn HB0.out HC1.out HM1.out HO1.out (by (repeat (refine Mod.set ?_ (by first | exact hbr | exact hbx))); exact Mod.refl _ _) s.T).2, .takeNo rfl HRES.out⟩
  go_upto_region 14 with (fail)
  obtain ⟨w2, hw2⟩ : ∃ w2, w2 = (w1.setCell ⟨w.heap.size + 1 + 1, 0, none⟩ (.int .i64 (f : Int))).setCell ⟨w.heap.size + 1 + 1, 4, none⟩ (.int .i64 0) := ⟨_, rfl⟩
  rw [← hw2]
  have hm12 : Mod (fun b => w.heap.size ≤ b ∧ b < w0.heap.size) w1 w2 := by rw [hw2]; exact (by (repeat (refine Mod.set ?_ (by first | exact hbr | exact hbx))); exact Mod.refl _ _)
  have hrun2 := (HRUN.out.turn HB0.out HC1.out HM1.out HO1.out hm12 s.T).1
  have hbel2 := (HRUN.out.turn HB0.out HC1.out HM1.out HO1.out hm12 s.T).2
  have hX1 := (HM1.out.block (w.heap.size + 1 + 1) (by omega) (nb _ (by omega))).trans HX0.out
  have hX2 : w2.heap[w.heap.size + 1 + 1]? = some (.cells #[.int .i64 (f : Int), .int .i64 0, .int .u8 0, .bool false, .int .i64 0] 34 (0, 0)) := by
    rw [hw2]
    have h8 := Joins.block_setCell (i := 4) (Joins.block_setCell (i := 0) hX1 (.int .i64 (f : Int))) (.int .i64 0)
    simpa using h8
  have hR1 := (HM1.out.block (w.heap.size + 1) (by omega) (nb _ (by omega))).trans HR0.out
  have hm12' : Mod (fun b => b = w.heap.size + 1 + 1) w1 w2 := by rw [hw2]; exact (mod_set (S := fun b => b = w.heap.size + 1 + 1) rfl 0 _).trans (Out.refl _ _) (mod_set (S := fun b => b = w.heap.size + 1 + 1) rfl 4 _)
  have hR2 := (hm12'.block (w.heap.size + 1) hlt1 (by omega)).trans hR1
  have q0 : w2.cell? ⟨w.heap.size + 1 + 1, 0, none⟩ = some (.int .i64 (f : Int)) := one_block hX2 0
  have q1 : w2.cell? ⟨o, 3, none⟩ = some (.slice H s.hold.length cap) := one_block hrun2.own.self 3
  have q2 : w2.frozen? ⟨o, 3, none⟩ = false := one_free hrun2.own.self 3
  have hz2 := hm12.size
  have hz01 := HM1.out.size
  have hob : o < w2.heap.size := hrun2.lts.1
  have hBb : B ≤ w2.heap.size := hrun2.base
  have hNo : some o ≠ H.map (·.block) := fun e => by
    cases H with
    | none => cases e
    | some ad =>
      rcases HRUN.out.row.form with ⟨h9, _⟩ | ⟨g, h9, _⟩
      · cases h9
      · injection h9 with h9
        subst h9
        simp only [Option.map_some, Option.some.injEq] at e
        exact (HRUN.out.rowNo g rfl).2.1 e.symm
  have hOw : ∀ W, (∀ b, b < w2.heap.size → W.heap[b]? = w2.heap[b]?) → OwnN W B H cap s.hold := fun W hW => hrun2.row.same fun g hg => hW g (hrun2.row.lt g hg).2
  have HOW := Lib.hid hOw
  have HRUN2 := Lib.hid hrun2
  have HBEL2 := Lib.hid hbel2
  have HX2 := Lib.hid hX2
  have HR2 := Lib.hid hR2
  have hlen : s.hold.length < 1000000 := by omega
  have hW1 : ∀ b, b < w2.heap.size → (w2.alloc (.cells #[.int .i64 (f : Int)] 3)).drew.heap[b]? = w2.heap[b]? := fun b hb => (((Below.refl _ _).alloc (Nat.le_refl _) _).drew).block b hb
  have HW1 := Lib.hid hW1
  clear hw2 hm12 hm12' hrun2 hbel2 hX1 hX2 hR1 hR2 hOw e0 e1 e2 e3 e4 e5 o0 o1 o2 o3 x0 x1 x2 x3 x4 y0 y1 y2 y3 y4 u0 u1 u2 u3 u4 z0 z1 z2 z3 z4 hW1
  go_region_law (first
    | (refine step_app_int (by rfl) (.tmp 87) (.tmp 90) (by rfl) B H cap s.hold (by rfl) (HOW.out _ HW1.out) f w2.heap.size 1 (by rfl) (heap_alloc_new w2 _) hlen (by simp; omega) ?_; intro g' cap' w4 ho4 hg4 hat4 hlt4; have p1 := hg4.cell_far ⟨o, 3, none⟩ (by simp; omega) hNo; have p2 := hg4.frozen_far ⟨o, 3, none⟩ (by simp; omega) hNo))
  all_goals
    obtain ⟨w5, hw5⟩ : ∃ w5, w5 = w4.setCell ⟨o, 3, none⟩ (.slice (some ⟨g', 0, none⟩) (s.hold.length + 1) cap') := ⟨_, rfl⟩
    rw [← hw5]
    have hm24 : Mod (fun b => H = some ⟨b, 0, none⟩) w2 w4 := by
      refine ⟨hg4.os, hg4.tape, hg4.output, ?_, fun b hb hn => ?_⟩
      · have := hg4.size
        simp at this
        omega
      · refine (hg4.block b (by simp; omega) (fun e => hn ?_)).trans (HW1.out b hb)
        rcases HRUN.out.row.form with ⟨h9, _⟩ | ⟨g, h9, _⟩
        · rw [h9] at e; cases e
        · rw [h9] at e
          simp only [Option.map_some, Option.some.injEq] at e
          rw [h9, e]
    have hm45 : Mod (fun b => b = o) w4 w5 := by rw [hw5]; exact mod_set (S := fun b => b = o) rfl 3 _
    have hm25 : Mod (fun b => b = o ∨ H = some ⟨b, 0, none⟩) w2 w5 := (hm24.sub fun b hb => .inr hb).trans (Out.refl _ _) (hm45.sub fun b hb => .inl hb)
    have hHo : H ≠ some ⟨o, 0, none⟩ := fun e => (HRUN.out.rowNo o e).2.1 rfl
    have hHlt : ∀ b, H = some ⟨b, 0, none⟩ → b < w.heap.size := fun b e => (HRUN.out.row.lt b e).2
    have hO4 := (hm24.block o hob hHo).trans HRUN2.out.own.self
    have hO5 : w5.heap[o]? = some (.cells #[.pointer (some ⟨a, 0, none⟩), .pointer (some ⟨c, 0, none⟩), .pointer (some ⟨t, 0, none⟩), .slice (some ⟨g', 0, none⟩) (s.hold ++ [f]).length cap'] 56 (0, 0)) := by
      rw [hw5, List.length_append]
      have h8 := Joins.block_setCell (i := 3) hO4 (.slice (some ⟨g', 0, none⟩) (s.hold.length + 1) cap')
      simpa using h8
    have hgo : g' ≠ o := by
      rcases hat4 with e | e
      · rcases HRUN.out.row.form with ⟨h9, _⟩ | ⟨g, h9, _⟩
        · rw [h9] at e; cases e
        · rw [h9] at e
          simp only [Option.map_some, Option.some.injEq] at e
          rw [e] at h9
          exact fun e2 => hHo (e2 ▸ h9)
      · simp at e; omega
    have hrow5 : OwnN w5 B (some ⟨g', 0, none⟩) cap' (s.hold ++ [f]) := ho4.same fun b hb => by
      injection hb with hb
      injection hb with hb
      subst hb
      exact hm45.block _ hlt4 hgo
    have hnew : ∀ b, (some ⟨g', 0, none⟩ : Option Addr) = some ⟨b, 0, none⟩ → H = some ⟨b, 0, none⟩ ∨ w2.heap.size ≤ b := fun b hb => by
      injection hb with hb
      injection hb with hb
      subst hb
      rcases hat4 with e | e
      · left
        rcases HRUN.out.row.form with ⟨h9, _⟩ | ⟨g, h9, _⟩
        · rw [h9] at e; cases e
        · rw [h9] at e
          simp only [Option.map_some, Option.some.injEq] at e
          rw [h9, e]
      · right; simp at e; omega
    have hrun5 := HRUN2.out.rehold hm25 hO5 hrow5 hnew
    have hX5 := (hm25.block (w.heap.size + 1 + 1) (by omega) (fun e => e.elim (fun e => by omega) (fun e => by have := hHlt _ e; omega))).trans HX2.out
    have hR5 := (hm25.block (w.heap.size + 1) (by omega) (fun e => e.elim (fun e => by omega) (fun e => by have := hHlt _ e; omega))).trans HR2.out
    have x0 : w5.cell? ⟨w.heap.size + 1 + 1, 0, none⟩ = some (.int .i64 (f : Int)) := one_block hX5 0
    have x1 : w5.cell? ⟨w.heap.size + 1 + 1, 1, none⟩ = some (.int .i64 0) := one_block hX5 1
    have x2 : w5.cell? ⟨w.heap.size + 1 + 1, 2, none⟩ = some (.int .u8 0) := one_block hX5 2
    have x3 : w5.cell? ⟨w.heap.size + 1 + 1, 3, none⟩ = some (.bool false) := one_block hX5 3
    have x4 : w5.cell? ⟨w.heap.size + 1 + 1, 4, none⟩ = some (.int .i64 0) := one_block hX5 4
    have y0 : w5.cell? ⟨w.heap.size + 1, 0, none⟩ = some (.int .i64 0) := one_block hR5 0
    have y1 : w5.cell? ⟨w.heap.size + 1, 1, none⟩ = some (.int .i64 0) := one_block hR5 1
    have y2 : w5.cell? ⟨w.heap.size + 1, 2, none⟩ = some (.int .u8 0) := one_block hR5 2
    have y3 : w5.cell? ⟨w.heap.size + 1, 3, none⟩ = some (.bool false) := one_block hR5 3
    have y4 : w5.cell? ⟨w.heap.size + 1, 4, none⟩ = some (.int .i64 0) := one_block hR5 4
    have z0 := one_free hR5 0
    have z1 := one_free hR5 1
    have z2 := one_free hR5 2
    have z3 := one_free hR5 3
    have z4 := one_free hR5 4
    have hlt1 : w.heap.size + 1 < w5.heap.size := (Array.getElem?_eq_some_iff.1 hR5).1
    have hbel05 : Mod (fun b => Runs S o c m t H b ∨ w.heap.size ≤ b) w w5 := (HBEL2.out.sub fun b hb => .inl hb).trans (Out.refl _ _) (hm25.sub fun b hb => .inl (hb.elim (fun e => .inr (.inl e)) (fun e => .inr (.inr (.inr (.inr (.inr e)))))))
    have hok : ∀ b, b = w.heap.size + 1 → B ≤ b ∧ ¬ S' b ∧ b ≠ o ∧ b ≠ c ∧ b ≠ m ∧ b ≠ t ∧ b ≠ 0 ∧ (some ⟨g', 0, none⟩ : Option Addr) ≠ some ⟨b, 0, none⟩ := fun b hb => by
      have hBw := HRUN.out.base
      refine ⟨by omega, fun e => (HO1.out b e).elim (fun e => by have := l5 b e; omega) (fun e => by omega), by omega, by omega, by omega, by omega, by omega, fun e => ?_⟩
      rcases hnew b e with e2 | e2
      · have := hHlt b e2; omega
      · omega
    have HR5 := Lib.hid hrun5
    have HB5 := Lib.hid hbel05
    clear hw5 hm24 hm45 hm25 hO4 hO5 hrow5 hnew hrun5 hX5 hR5 hbel05 p1 p2 q0 q1 q2 ho4 hg4 hat4
    go_wp2_with fail
    have hm56 := fun (X : Nat → Prop) (hx : X (w.heap.size + 1)) => ((((mod_set (w := w5) (S := X) hx 0 (.int .i64 (f : Int))).trans (Out.refl _ _) (mod_set hx 1 (.int .i64 0))).trans (Out.refl _ _) (mod_set hx 2 (.int .u8 0))).trans (Out.refl _ _) (mod_set hx 3 (.bool false))).trans (Out.refl _ _) (mod_set hx 4 (.int .i64 0))
    have hm6 := hm56 (fun b => b = w.heap.size + 1) rfl
    exact bodyPost_ret (v := (Told.mk (f : Int) noLeaf 0).val) (by simp [results, Tryz.results11, go_sem, Told.val, noLeaf, hlt1, x0, x1, x2, x3, x4, y0, y1, y2, y3, y4, z0, z1, z2, z3, z4]) rfl ⟨⟨f, noLeaf, 0⟩, ⟨p', s.T, L', s.clock, s.hold ++ [f]⟩, S', some ⟨g', 0, none⟩, cap', rfl, HR5.out.mod hm6 hok, Mod.old (HB5.out.trans (Out.refl _ _) (hm6.sub fun b hb => .inr (by omega))), .takeYes rfl HRES.out⟩

theorem RunAt.below {w w' : World} {B o a c fs m t root : Nat} {S : Nat → Prop} {s : Sta} {H : Option Addr} {cap : Nat} (h : RunAt w B o a c fs m t root S s H cap) (hb : Below w.heap.size w w') : RunAt w' B o a c fs m t root S s H cap :=
  h.mod (X := fun _ => False) (Mod.of hb) (fun _ e => e.elim)

set_option maxRecDepth 100000 in
set_option maxHeartbeats 4000000 in
theorem does_giveNo (B o a c fs m t root n k : Nat) (A fr q N : Int) (cp : Bool) (w : World) (S : Nat → Prop) (s : Sta) (H : Option Addr) (cap : Nat) (h : RunAt w B o a c fs m t root S s H cap) (hf : Freed.Fine s n k) (hk : k ≤ 100000) (hN : N < 0 ∨ (s.hold.length : Int) ≤ N) :
    Calls Tryz.prog 11 #[.pointer (some ⟨o, 0, none⟩), .agg #[.int .i64 6, .int .u64 A, .int .i64 fr, .int .u8 q, .bool cp, .int .i64 N]] w (DoesPost w B o a c fs m t root S H ⟨6, A, fr, q, cp, N⟩ s) := by
  have hO := h.own
  obtain ⟨l1, l2, l3, l4, l5⟩ := h.lts
  have hpos := hO.cache.pool.pos
  obtain ⟨w0, hw0⟩ : ∃ w0, w0 = ((w.alloc (.cells #[.int .i64 6, .int .u64 A, .int .i64 fr, .int .u8 q, .bool cp, .int .i64 N] 38)).alloc (.cells #[.int .i64 0, .int .i64 0, .int .u8 0, .bool false, .int .i64 0] 34)).alloc (.cells #[.int .i64 0, .int .i64 0, .int .u8 0, .bool false, .int .i64 0] 34) := ⟨_, rfl⟩
  have hB0 : Below w.heap.size w w0 := by (rw [hw0]; exact (((Below.refl _ _).alloc (Nat.le_refl _) _).alloc (by simp) _).alloc (by simp; omega) _)
  have hs0 : w0.heap.size = w.heap.size + 1 + 1 + 1 := by (rw [hw0]; simp)
  have hE0 : w0.heap[w.heap.size]? = some (.cells #[.int .i64 6, .int .u64 A, .int .i64 fr, .int .u8 q, .bool cp, .int .i64 N] 38 (0, 0)) := by (rw [hw0]; exact (Below.heap_alloc _ _ _ (by simp; omega)).trans ((Below.heap_alloc _ _ _ (by simp)).trans (heap_alloc_new w _)))
  have hR0 : w0.heap[w.heap.size + 1]? = some (.cells #[.int .i64 0, .int .i64 0, .int .u8 0, .bool false, .int .i64 0] 34 (0, 0)) := by
    (rw [hw0]
     have e : (w.alloc (.cells #[.int .i64 6, .int .u64 A, .int .i64 fr, .int .u8 q, .bool cp, .int .i64 N] 38)).heap.size = w.heap.size + 1 := by simp
     rw [← e]
     exact (Below.heap_alloc _ _ _ (by simp)).trans (heap_alloc_new _ _))
  have hX0 : w0.heap[w.heap.size + 1 + 1]? = some (.cells #[.int .i64 0, .int .i64 0, .int .u8 0, .bool false, .int .i64 0] 34 (0, 0)) := by
    (rw [hw0]
     have e : ((w.alloc (.cells #[.int .i64 6, .int .u64 A, .int .i64 fr, .int .u8 q, .bool cp, .int .i64 N] 38)).alloc (.cells #[.int .i64 0, .int .i64 0, .int .u8 0, .bool false, .int .i64 0] 34)).heap.size = w.heap.size + 1 + 1 := by simp
     rw [← e]
     exact heap_alloc_new _ _)
  have hdr : Below w.heap.size w w0.drew := hB0.drew
  have e0 : w0.cell? ⟨w.heap.size, 0, none⟩ = some (.int .i64 6) := one_block hE0 0
  have e1 : w0.cell? ⟨w.heap.size, 1, none⟩ = some (.int .u64 A) := one_block hE0 1
  have e2 : w0.cell? ⟨w.heap.size, 2, none⟩ = some (.int .i64 fr) := one_block hE0 2
  have e3 : w0.cell? ⟨w.heap.size, 3, none⟩ = some (.int .u8 q) := one_block hE0 3
  have e4 : w0.cell? ⟨w.heap.size, 4, none⟩ = some (.bool cp) := one_block hE0 4
  have e5 : w0.cell? ⟨w.heap.size, 5, none⟩ = some (.int .i64 N) := one_block hE0 5
  have o0 : w0.cell? ⟨o, 0, none⟩ = some (.pointer (some ⟨a, 0, none⟩)) := (hB0.cell (p := ⟨o, 0, none⟩) l1).trans (one_block hO.self 0)
  have o1 : w0.cell? ⟨o, 1, none⟩ = some (.pointer (some ⟨c, 0, none⟩)) := (hB0.cell (p := ⟨o, 1, none⟩) l1).trans (one_block hO.self 1)
  have o2 : w0.cell? ⟨o, 2, none⟩ = some (.pointer (some ⟨t, 0, none⟩)) := (hB0.cell (p := ⟨o, 2, none⟩) l1).trans (one_block hO.self 2)
  have o3 : w0.cell? ⟨o, 3, none⟩ = some (.slice H s.hold.length cap) := (hB0.cell (p := ⟨o, 3, none⟩) l1).trans (one_block hO.self 3)
  have HRUN := Lib.hid h
  have HOWN := Lib.hid hO
  have HW0 := Lib.hid hw0
  have HE0 := Lib.hid hE0
  have HR0 := Lib.hid hR0
  have HX0 := Lib.hid hX0
  have HB0 := Lib.hid hB0
  clear h hO hw0 hE0 hR0 hX0 hB0
  have hbr : w.heap.size ≤ w.heap.size + 1 ∧ w.heap.size + 1 < w0.heap.size := by omega
  have hbx : w.heap.size ≤ w.heap.size + 1 + 1 ∧ w.heap.size + 1 + 1 < w0.heap.size := by omega
  have d0 : ∀ d os, (grow (redrawn w0 d) os).cell? ⟨o, 3, none⟩ = some (.slice H s.hold.length cap) := fun d os => cell_regrown o3 d os
  have d1 : ∀ d os, (grow (redrawn w0 d) os).cell? ⟨w.heap.size, 5, none⟩ = some (.int .i64 N) := fun d os => cell_regrown e5 d os
  have hG := fun d os => Calls.regrown_of ((lat_no H s.hold.length cap N (grow (redrawn w0 d) os) hN).mono fun _ _ ⟨h1, h2⟩ => ⟨h1, h2 ▸ Below.refl _ _⟩)
  have HG := Lib.hid hG
  have HN := Lib.hid hN
  clear hG hN
  go_enter Tryz.func11, Tryz.ntmps11
  go_upto_region 1 with (fail)
  go_upto_region 18 with (fail)
  rw [← HW0.out]
  refine wp_region_quiet_below (by kernel_rfl) (by kernel_rfl) ?_; (repeat (go_big_quiet_step ((exact HG.out _ _)))); refine wpQuiet_nil ?_; intro _ hw'; obtain ⟨⟨dq, osq⟩, hw''⟩ := hw'; subst hw''; have hbq := below_regrown (w0) dq osq; generalize grow (redrawn (w0) dq) osq = wq at hbq ⊢
  clear d0 d1 e0 e1 e2 e3 e4 e5 o0 o1 o2 o3
  have hm1 : Mod (fun b => S b ∨ b = m ∨ b = c) w0 wq := Mod.of hbq
  obtain ⟨x0, x1, x2, x3, x4, u0, u1, u2, u3, u4, hlt2⟩ := told_box (X := fun _ => False) HX0.out (Mod.of hbq) id
  obtain ⟨y0, y1, y2, y3, y4, z0, z1, z2, z3, z4, hlt1⟩ := told_box (X := fun _ => False) HR0.out (Mod.of hbq) id
  go_wp2_with fail
  exact bodyPost_ret (v := ((Told.err 0)).val) (by simp [results, Tryz.results11, go_sem, Told.val, Told.err, noLeaf, hlt1, hlt2, x0, x1, x2, x3, x4, y0, y1, y2, y3, y4, u0, u1, u2, u3, u4, z0, z1, z2, z3, z4]) rfl ⟨(Told.err 0), s, S, H, cap, rfl, (HRUN.out.turn HB0.out ((HOWN.out.cache.below HB0.out).below hbq) hm1 (Out.refl _ _) (by (repeat (refine Mod.set ?_ (by first | exact hbr | exact hbx))); exact Mod.refl _ _) s.T).1, (HRUN.out.turn HB0.out ((HOWN.out.cache.below HB0.out).below hbq) hm1 (Out.refl _ _) (by (repeat (refine Mod.set ?_ (by first | exact hbr | exact hbx))); exact Mod.refl _ _) s.T).2, .giveNone rfl HN.out⟩

set_option maxRecDepth 100000 in
set_option maxHeartbeats 4000000 in
theorem does_give (B o a c fs m t root n k i f : Nat) (A fr q : Int) (cp : Bool) (w : World) (S : Nat → Prop) (s : Sta) (H : Option Addr) (cap : Nat) (h : RunAt w B o a c fs m t root S s H cap) (hf : Freed.Fine s n k) (hk : k ≤ 100000) (hi : s.hold[i]? = some f) :
    Calls Tryz.prog 11 #[.pointer (some ⟨o, 0, none⟩), .agg #[.int .i64 6, .int .u64 A, .int .i64 fr, .int .u8 q, .bool cp, .int .i64 (i : Int)]] w (DoesPost w B o a c fs m t root S H ⟨6, A, fr, q, cp, (i : Int)⟩ s) := by
  obtain ⟨N, hNi⟩ : ∃ N : Int, N = (i : Int) := ⟨_, rfl⟩
  rw [← hNi]
  have hO := h.own
  obtain ⟨l1, l2, l3, l4, l5⟩ := h.lts
  have hpos := hO.cache.pool.pos
  obtain ⟨w0, hw0⟩ : ∃ w0, w0 = ((w.alloc (.cells #[.int .i64 6, .int .u64 A, .int .i64 fr, .int .u8 q, .bool cp, .int .i64 N] 38)).alloc (.cells #[.int .i64 0, .int .i64 0, .int .u8 0, .bool false, .int .i64 0] 34)).alloc (.cells #[.int .i64 0, .int .i64 0, .int .u8 0, .bool false, .int .i64 0] 34) := ⟨_, rfl⟩
  have hB0 : Below w.heap.size w w0 := by (rw [hw0]; exact (((Below.refl _ _).alloc (Nat.le_refl _) _).alloc (by simp) _).alloc (by simp; omega) _)
  have hs0 : w0.heap.size = w.heap.size + 1 + 1 + 1 := by (rw [hw0]; simp)
  have hE0 : w0.heap[w.heap.size]? = some (.cells #[.int .i64 6, .int .u64 A, .int .i64 fr, .int .u8 q, .bool cp, .int .i64 N] 38 (0, 0)) := by (rw [hw0]; exact (Below.heap_alloc _ _ _ (by simp; omega)).trans ((Below.heap_alloc _ _ _ (by simp)).trans (heap_alloc_new w _)))
  have hR0 : w0.heap[w.heap.size + 1]? = some (.cells #[.int .i64 0, .int .i64 0, .int .u8 0, .bool false, .int .i64 0] 34 (0, 0)) := by
    (rw [hw0]
     have e : (w.alloc (.cells #[.int .i64 6, .int .u64 A, .int .i64 fr, .int .u8 q, .bool cp, .int .i64 N] 38)).heap.size = w.heap.size + 1 := by simp
     rw [← e]
     exact (Below.heap_alloc _ _ _ (by simp)).trans (heap_alloc_new _ _))
  have hX0 : w0.heap[w.heap.size + 1 + 1]? = some (.cells #[.int .i64 0, .int .i64 0, .int .u8 0, .bool false, .int .i64 0] 34 (0, 0)) := by
    (rw [hw0]
     have e : ((w.alloc (.cells #[.int .i64 6, .int .u64 A, .int .i64 fr, .int .u8 q, .bool cp, .int .i64 N] 38)).alloc (.cells #[.int .i64 0, .int .i64 0, .int .u8 0, .bool false, .int .i64 0] 34)).heap.size = w.heap.size + 1 + 1 := by simp
     rw [← e]
     exact heap_alloc_new _ _)
  have hdr : Below w.heap.size w w0.drew := hB0.drew
  have e0 : w0.cell? ⟨w.heap.size, 0, none⟩ = some (.int .i64 6) := one_block hE0 0
  have e1 : w0.cell? ⟨w.heap.size, 1, none⟩ = some (.int .u64 A) := one_block hE0 1
  have e2 : w0.cell? ⟨w.heap.size, 2, none⟩ = some (.int .i64 fr) := one_block hE0 2
  have e3 : w0.cell? ⟨w.heap.size, 3, none⟩ = some (.int .u8 q) := one_block hE0 3
  have e4 : w0.cell? ⟨w.heap.size, 4, none⟩ = some (.bool cp) := one_block hE0 4
  have e5 : w0.cell? ⟨w.heap.size, 5, none⟩ = some (.int .i64 N) := one_block hE0 5
  have o0 : w0.cell? ⟨o, 0, none⟩ = some (.pointer (some ⟨a, 0, none⟩)) := (hB0.cell (p := ⟨o, 0, none⟩) l1).trans (one_block hO.self 0)
  have o1 : w0.cell? ⟨o, 1, none⟩ = some (.pointer (some ⟨c, 0, none⟩)) := (hB0.cell (p := ⟨o, 1, none⟩) l1).trans (one_block hO.self 1)
  have o2 : w0.cell? ⟨o, 2, none⟩ = some (.pointer (some ⟨t, 0, none⟩)) := (hB0.cell (p := ⟨o, 2, none⟩) l1).trans (one_block hO.self 2)
  have o3 : w0.cell? ⟨o, 3, none⟩ = some (.slice H s.hold.length cap) := (hB0.cell (p := ⟨o, 3, none⟩) l1).trans (one_block hO.self 3)
  have HRUN := Lib.hid h
  have HOWN := Lib.hid hO
  have HW0 := Lib.hid hw0
  have HE0 := Lib.hid hE0
  have HR0 := Lib.hid hR0
  have HX0 := Lib.hid hX0
  have HB0 := Lib.hid hB0
  clear h hO hw0 hE0 hR0 hX0 hB0
  have hbr : w.heap.size ≤ w.heap.size + 1 ∧ w.heap.size + 1 < w0.heap.size := by omega
  have hbx : w.heap.size ≤ w.heap.size + 1 + 1 ∧ w.heap.size + 1 + 1 < w0.heap.size := by omega
  have d0 : ∀ d os, (grow (redrawn w0 d) os).cell? ⟨o, 3, none⟩ = some (.slice H s.hold.length cap) := fun d os => cell_regrown o3 d os
  have d1 : ∀ d os, (grow (redrawn w0 d) os).cell? ⟨w.heap.size, 5, none⟩ = some (.int .i64 N) := fun d os => cell_regrown e5 d os
  have hrun0 := HRUN.out.below HB0.out
  have hG : ∀ d os, _ := fun d os => Calls.regrown_of ((lat_yes B H cap i f s.hold (grow (redrawn w0 d) os) (hrun0.below (below_regrown w0 d os)).row hi).mono fun _ _ ⟨h1, h2⟩ => ⟨h1, h2 ▸ Below.refl _ _⟩)
  rw [← hNi] at hG
  have hil : i < s.hold.length := (List.getElem?_eq_some_iff.1 hi).1
  have hless := fun W (hW : Below w0.heap.size w0 W) => less_any B H cap i s.hold W (hrun0.below hW).row hil (by have := hf.few; omega)
  rw [← hNi] at hless
  have hfn : f < s.p.n := by rw [hf.size]; exact hf.low f (List.mem_of_getElem? hi)
  have hfc : 1 ≤ s.p.cnt f := by
    have h1 := hf.good.cnt f hfn
    have h2 := cntH_pos hi
    unfold held at h1
    omega
  have hlen : (s.hold.eraseIdx i).length = s.hold.length - 1 := by rw [List.length_eraseIdx, if_pos hil]
  have hres : DoRes ⟨6, A, fr, q, cp, N⟩ s (.err 0) ⟨s.p.down f, s.T, s.L, s.clock, s.hold.eraseIdx i⟩ := by
    have h9 := DoRes.give (s := s) (o := ⟨6, A, fr, q, cp, N⟩) f rfl (by show 0 ≤ N; omega) (by show s.hold[N.toNat]? = some f; rw [hNi, Int.toNat_natCast]; exact hi)
    simp only [hNi, Int.toNat_natCast] at h9 ⊢
    exact h9
  have HRES := Lib.hid hres
  have HG := Lib.hid hG
  have HLESS := Lib.hid hless
  have HRUN0 := Lib.hid hrun0
  clear hG hNi hless hi hrun0 hres
  go_enter Tryz.func11, Tryz.ntmps11
  go_upto_region 1 with (fail)
  go_upto_region 18 with (fail)
  rw [← HW0.out]
  refine wp_region_quiet_below (by kernel_rfl) (by kernel_rfl) ?_; (repeat (go_big_quiet_step ((exact HG.out _ _)))); refine wpQuiet_nil ?_; intro _ hw'; obtain ⟨⟨dq, osq⟩, hw''⟩ := hw'; subst hw''; have hbq := below_regrown (w0) dq osq; generalize grow (redrawn (w0) dq) osq = wq at hbq ⊢
  clear d0 d1 e0 e1 e2 e3 e4 o0 o1 o2
  have hzq := hbq.size
  have q3 : wq.cell? ⟨o, 3, none⟩ = some (.slice H s.hold.length cap) := (hbq.cell (p := ⟨o, 3, none⟩) (by show o < _; omega)).trans o3
  have q5 : wq.cell? ⟨w.heap.size, 5, none⟩ = some (.int .i64 N) := (hbq.cell (p := ⟨w.heap.size, 5, none⟩) (by show w.heap.size < _; omega)).trans e5
  clear o3 e5
  have hdq : Below wq.heap.size wq wq.drew := (Below.refl _ _).drew
  have hrunq := HRUN0.out.below hbq
  have hoq : o < wq.heap.size := hrunq.lts.1
  have hcall : Calls Tryz.prog 48 #[.slice H s.hold.length cap, .int .i64 N] wq.drew fun e w2 => ∃ g cap', e = .returned (.slice (some ⟨g, 0, none⟩) (s.hold.length - 1) cap') ∧ Hid (OwnN w2 wq.heap.size (some ⟨g, 0, none⟩) cap' (s.hold.eraseIdx i)) ∧ Hid (Below wq.heap.size wq w2) ∧ w2.cell? ⟨o, 3, none⟩ = some (.slice H s.hold.length cap) ∧ w2.frozen? ⟨o, 3, none⟩ = false := by
    refine (HLESS.out wq.drew (hbq.trans (hdq.mono hzq))).mono ?_
    rintro e w2 ⟨g, cap', rfl, ho2, hb2⟩
    have hbb : Below wq.heap.size wq w2 := hdq.trans hb2
    have hO2 := (hbb.block o hoq).trans hrunq.own.self
    exact ⟨g, cap', by rw [hlen], Lib.hid ho2, Lib.hid hbb, one_block hO2 3, one_free hO2 3⟩
  have HRQ := Lib.hid hrunq
  have HC := Lib.hid hcall
  have HBQ := Lib.hid hbq
  clear hcall hrunq HLESS hdq
  go_upto_region 20 with (fail)
  go_region_with ((first
    | (go_at_call 48; refine (HC.out).mono ?_; rintro e w2 ⟨g, cap', rfl, HO2, HB2, p1, p2⟩)))
  all_goals
    obtain ⟨w3, hw3⟩ : ∃ w3, w3 = w2.setCell ⟨o, 3, none⟩ (.slice (some ⟨g, 0, none⟩) (s.hold.length - 1) cap') := ⟨_, rfl⟩
    rw [← hw3]
    have hm23 : Mod (fun b => b = o) w2 w3 := by rw [hw3]; exact mod_set (S := fun b => b = o) rfl 3 _
    have hmq3 : Mod (fun b => b = o ∨ H = some ⟨b, 0, none⟩) wq w3 := (Mod.of HB2.out).trans (Out.refl _ _) (hm23.sub fun b hb => .inl hb)
    have hO2 := (HB2.out.block o hoq).trans HRQ.out.own.self
    have hO3 : w3.heap[o]? = some (.cells #[.pointer (some ⟨a, 0, none⟩), .pointer (some ⟨c, 0, none⟩), .pointer (some ⟨t, 0, none⟩), .slice (some ⟨g, 0, none⟩) (s.hold.eraseIdx i).length cap'] 56 (0, 0)) := by
      rw [hw3, hlen]
      have h8 := Joins.block_setCell (i := 3) hO2 (.slice (some ⟨g, 0, none⟩) (s.hold.length - 1) cap')
      simpa using h8
    have hgq := HO2.out.formS
    have hrow3 : OwnN w3 B (some ⟨g, 0, none⟩) cap' (s.hold.eraseIdx i) := (HO2.out.lower HRQ.out.base).same fun b hb => by
      injection hb with hb
      injection hb with hb
      subst hb
      exact hm23.block _ hgq.2.1 (by omega)
    have hrun3 := HRQ.out.rehold hmq3 hO3 hrow3 (fun b hb => by injection hb with hb; injection hb with hb; subst hb; exact .inr hgq.1)
    have r0 : w3.cell? ⟨o, 0, none⟩ = some (.pointer (some ⟨a, 0, none⟩)) := one_block hO3 0
    have HR3 := Lib.hid hrun3
    have HM3 := Lib.hid hmq3
    clear hw3 hm23 hmq3 hO2 hO3 hrow3 hrun3 p1 p2 q3 q5
    go_upto_region 24 with (first
      | (go_at_call 49; refine (down_yes a f w3 S s.p HR3.out.own.cache.pool hfn hfc).mono ?_; rintro e w4 ⟨rfl, hP4, hm4⟩; have HP4 := Lib.hid hP4; have HM4 := Lib.hid hm4; clear hP4 hm4; have hm04 : Mod (fun b => S b ∨ b = o ∨ H = some ⟨b, 0, none⟩) w0 w4 := (Mod.of HBQ.out).trans (Out.refl _ _) ((HM3.out.sub fun b hb => .inr hb).trans (Out.refl _ _) (HM4.out.sub fun b hb => .inl hb)); have hnx : ∀ b, w.heap.size ≤ b → ¬ (S b ∨ b = o ∨ H = some ⟨b, 0, none⟩) := (fun b hb e => by (rcases e with e | e | e; have := l5 b e; omega; omega; have := (HRUN.out.row.lt b e).2; omega)); obtain ⟨x0, x1, x2, x3, x4, u0, u1, u2, u3, u4, hlt2⟩ := told_box HX0.out hm04 (hnx _ (by omega)); obtain ⟨y0, y1, y2, y3, y4, z0, z1, z2, z3, z4, hlt1⟩ := told_box HR0.out hm04 (hnx _ (by omega)); clear hm04)
      | fail)
    have hC4 := HR3.out.own.cache.turn HM4.out HP4.out (Out.refl _ _)
    obtain ⟨hrun4, hbel4⟩ := HR3.out.turn (Below.refl _ _) hC4 (HM4.out.sub fun b hb => .inl hb) (Out.refl _ _) (Mod.refl (fun b => w3.heap.size ≤ b ∧ b < w3.heap.size) w4) s.T
    have hok : ∀ b, (w.heap.size ≤ b ∧ b < w0.heap.size) → B ≤ b ∧ ¬ S b ∧ b ≠ o ∧ b ≠ c ∧ b ≠ m ∧ b ≠ t ∧ b ≠ 0 ∧ (some ⟨g, 0, none⟩ : Option Addr) ≠ some ⟨b, 0, none⟩ := fun b hb => by
      have hBw := HRUN.out.base
      refine ⟨by omega, fun e => by have := l5 b e; omega, by omega, by omega, by omega, by omega, by omega, fun e => ?_⟩
      injection e with e
      injection e with e
      omega
    have HR4 := Lib.hid hrun4
    have HB4 := Lib.hid ((HRUN.out.below HB0.out).base)
    have hbw4 : Mod (fun b => Runs S o c m t H b ∨ w.heap.size ≤ b) w w4 := (Mod.of HB0.out).trans (Out.refl _ _) ((Mod.of HBQ.out).trans (Out.refl _ _) ((HM3.out.sub fun b hb => .inl (hb.elim (fun e => .inr (.inl e)) (fun e => .inr (.inr (.inr (.inr (.inr e))))))).trans (Out.refl _ _) (HM4.out.sub fun b hb => .inl (.inl hb))))
    have HBW4 := Lib.hid hbw4
    clear hC4 hrun4 hbel4 hbw4 r0
    go_wp2_with fail
    have hm6 : ∀ W, Mod (fun b => w.heap.size ≤ b ∧ b < w0.heap.size) w4 W → RunAt W B o a c fs m t root S ⟨s.p.down f, s.T, s.L, s.clock, s.hold.eraseIdx i⟩ (some ⟨g, 0, none⟩) cap' ∧ Mod (Runs S o c m t H) w W := fun W hW => ⟨HR4.out.mod hW hok, Mod.old (HBW4.out.trans (Out.refl _ _) (hW.sub fun b hb => .inr hb.1))⟩
    exact bodyPost_ret (v := ((Told.err 0)).val) (by simp [results, Tryz.results11, go_sem, Told.val, Told.err, noLeaf, hlt1, hlt2, x0, x1, x2, x3, x4, y0, y1, y2, y3, y4, u0, u1, u2, u3, u4, z0, z1, z2, z3, z4]) rfl ⟨(Told.err 0), ⟨s.p.down f, s.T, s.L, s.clock, s.hold.eraseIdx i⟩, S, (some ⟨g, 0, none⟩), cap', rfl, (hm6 _ (by (repeat (refine Mod.set ?_ (by first | exact hbr | exact hbx))); exact Mod.refl _ _)).1, (hm6 _ (by (repeat (refine Mod.set ?_ (by first | exact hbr | exact hbx))); exact Mod.refl _ _)).2, HRES.out⟩


set_option maxRecDepth 100000 in
set_option maxHeartbeats 4000000 in
theorem does_map (B o a c fs m t root n k : Nat) (A fr q N : Int) (cp : Bool) (w : World) (S : Nat → Prop) (s : Sta) (H : Option Addr) (cap : Nat) (h : RunAt w B o a c fs m t root S s H cap) (hf : Freed.Fine s n k) (hk : k ≤ 100000) :
    Calls Tryz.prog 11 #[.pointer (some ⟨o, 0, none⟩), .agg #[.int .i64 0, .int .u64 A, .int .i64 fr, .int .u8 q, .bool cp, .int .i64 N]] w (DoesPost w B o a c fs m t root S H ⟨0, A, fr, q, cp, N⟩ s) := by
  have hO := h.own
  obtain ⟨l1, l2, l3, l4, l5⟩ := h.lts
  have hpos := hO.cache.pool.pos
  obtain ⟨w0, hw0⟩ : ∃ w0, w0 = ((w.alloc (.cells #[.int .i64 0, .int .u64 A, .int .i64 fr, .int .u8 q, .bool cp, .int .i64 N] 38)).alloc (.cells #[.int .i64 0, .int .i64 0, .int .u8 0, .bool false, .int .i64 0] 34)).alloc (.cells #[.int .i64 0, .int .i64 0, .int .u8 0, .bool false, .int .i64 0] 34) := ⟨_, rfl⟩
  have hB0 : Below w.heap.size w w0 := by (rw [hw0]; exact (((Below.refl _ _).alloc (Nat.le_refl _) _).alloc (by simp) _).alloc (by simp; omega) _)
  have hs0 : w0.heap.size = w.heap.size + 1 + 1 + 1 := by (rw [hw0]; simp)
  have hE0 : w0.heap[w.heap.size]? = some (.cells #[.int .i64 0, .int .u64 A, .int .i64 fr, .int .u8 q, .bool cp, .int .i64 N] 38 (0, 0)) := by (rw [hw0]; exact (Below.heap_alloc _ _ _ (by simp; omega)).trans ((Below.heap_alloc _ _ _ (by simp)).trans (heap_alloc_new w _)))
  have hR0 : w0.heap[w.heap.size + 1]? = some (.cells #[.int .i64 0, .int .i64 0, .int .u8 0, .bool false, .int .i64 0] 34 (0, 0)) := by
    (rw [hw0]
     have e : (w.alloc (.cells #[.int .i64 0, .int .u64 A, .int .i64 fr, .int .u8 q, .bool cp, .int .i64 N] 38)).heap.size = w.heap.size + 1 := by simp
     rw [← e]
     exact (Below.heap_alloc _ _ _ (by simp)).trans (heap_alloc_new _ _))
  have hX0 : w0.heap[w.heap.size + 1 + 1]? = some (.cells #[.int .i64 0, .int .i64 0, .int .u8 0, .bool false, .int .i64 0] 34 (0, 0)) := by
    (rw [hw0]
     have e : ((w.alloc (.cells #[.int .i64 0, .int .u64 A, .int .i64 fr, .int .u8 q, .bool cp, .int .i64 N] 38)).alloc (.cells #[.int .i64 0, .int .i64 0, .int .u8 0, .bool false, .int .i64 0] 34)).heap.size = w.heap.size + 1 + 1 := by simp
     rw [← e]
     exact heap_alloc_new _ _)
  have hdr : Below w.heap.size w w0.drew := hB0.drew
  have e0 : w0.cell? ⟨w.heap.size, 0, none⟩ = some (.int .i64 0) := one_block hE0 0
  have e1 : w0.cell? ⟨w.heap.size, 1, none⟩ = some (.int .u64 A) := one_block hE0 1
  have e2 : w0.cell? ⟨w.heap.size, 2, none⟩ = some (.int .i64 fr) := one_block hE0 2
  have e3 : w0.cell? ⟨w.heap.size, 3, none⟩ = some (.int .u8 q) := one_block hE0 3
  have e4 : w0.cell? ⟨w.heap.size, 4, none⟩ = some (.bool cp) := one_block hE0 4
  have e5 : w0.cell? ⟨w.heap.size, 5, none⟩ = some (.int .i64 N) := one_block hE0 5
  have o0 : w0.cell? ⟨o, 0, none⟩ = some (.pointer (some ⟨a, 0, none⟩)) := (hB0.cell (p := ⟨o, 0, none⟩) l1).trans (one_block hO.self 0)
  have o1 : w0.cell? ⟨o, 1, none⟩ = some (.pointer (some ⟨c, 0, none⟩)) := (hB0.cell (p := ⟨o, 1, none⟩) l1).trans (one_block hO.self 1)
  have o2 : w0.cell? ⟨o, 2, none⟩ = some (.pointer (some ⟨t, 0, none⟩)) := (hB0.cell (p := ⟨o, 2, none⟩) l1).trans (one_block hO.self 2)
  have o3 : w0.cell? ⟨o, 3, none⟩ = some (.slice H s.hold.length cap) := (hB0.cell (p := ⟨o, 3, none⟩) l1).trans (one_block hO.self 3)
  have HRUN := Lib.hid h
  have HOWN := Lib.hid hO
  have HW0 := Lib.hid hw0
  have HE0 := Lib.hid hE0
  have HR0 := Lib.hid hR0
  have HX0 := Lib.hid hX0
  have HB0 := Lib.hid hB0
  clear h hO hw0 hE0 hR0 hX0 hB0
  have hcall := map_gone (some ⟨t, 0, none⟩) A fr q cp w0.drew (TabSelf.keep (hdr.block t (by omega)) HOWN.out.tab).gone
  have HC := Lib.hid hcall
  clear hcall
  go_enter Tryz.func11, Tryz.ntmps11
  go_upto_region 1 with (fail)
  go_upto_region 4 with (fail)
  rw [← HW0.out]
  go_still_tail 13, (by kernel_rfl)
  go_wp2_with fail
  refine (HC.out).mono ?_
  rintro e w1 ⟨rfl, hb1⟩
  have hC1 := (HOWN.out.cache.below hdr).below hb1
  have hm1 : Mod (fun b => S b ∨ b = m ∨ b = c) w0 w1 := (Mod.of hb1).undrew
  have HC1 := Lib.hid hC1
  have HM1 := Lib.hid hm1
  clear hC1 hm1 hb1 e0 e1 e2 e3 e4 e5 o0 o1 o2 o3
  have hbr : w.heap.size ≤ w.heap.size + 1 ∧ w.heap.size + 1 < w0.heap.size := by omega
  have hbx : w.heap.size ≤ w.heap.size + 1 + 1 ∧ w.heap.size + 1 + 1 < w0.heap.size := by omega
  have hz1 := (HM1.out).size
  have nb : ∀ b, w.heap.size ≤ b → ¬ (S b ∨ b = m ∨ b = c) := fun b hb e => by (rcases e with e | e | e; have := l5 b e; omega; omega; omega)
  have hR1 := ((HM1.out).block (w.heap.size + 1) (by omega) (nb _ (by omega))).trans HR0.out
  have hX1 := ((HM1.out).block (w.heap.size + 1 + 1) (by omega) (nb _ (by omega))).trans HX0.out
  have hlt1 : w.heap.size + 1 < w1.heap.size := by omega
  have hlt2 : w.heap.size + 1 + 1 < w1.heap.size := by omega
  have x0 : w1.cell? ⟨w.heap.size + 1 + 1, 0, none⟩ = some (.int .i64 0) := one_block hX1 0
  have x1 : w1.cell? ⟨w.heap.size + 1 + 1, 1, none⟩ = some (.int .i64 0) := one_block hX1 1
  have x2 : w1.cell? ⟨w.heap.size + 1 + 1, 2, none⟩ = some (.int .u8 0) := one_block hX1 2
  have x3 : w1.cell? ⟨w.heap.size + 1 + 1, 3, none⟩ = some (.bool false) := one_block hX1 3
  have x4 : w1.cell? ⟨w.heap.size + 1 + 1, 4, none⟩ = some (.int .i64 0) := one_block hX1 4
  have y0 : w1.cell? ⟨w.heap.size + 1, 0, none⟩ = some (.int .i64 0) := one_block hR1 0
  have y1 : w1.cell? ⟨w.heap.size + 1, 1, none⟩ = some (.int .i64 0) := one_block hR1 1
  have y2 : w1.cell? ⟨w.heap.size + 1, 2, none⟩ = some (.int .u8 0) := one_block hR1 2
  have y3 : w1.cell? ⟨w.heap.size + 1, 3, none⟩ = some (.bool false) := one_block hR1 3
  have y4 : w1.cell? ⟨w.heap.size + 1, 4, none⟩ = some (.int .i64 0) := one_block hR1 4
  have u0 := one_free hX1 0
  have u1 := one_free hX1 1
  have u2 := one_free hX1 2
  have u3 := one_free hX1 3
  have u4 := one_free hX1 4
  have z0 := one_free hR1 0
  have z1 := one_free hR1 1
  have z2 := one_free hR1 2
  have z3 := one_free hR1 3
  have z4 := one_free hR1 4
  clear hR1 hX1
  go_wp2_with fail
  skip
  exact bodyPost_ret (v := (Told.err 2).val) (by simp [results, Tryz.results11, go_sem, Told.val, Told.err, noLeaf, hlt1, hlt2, x0, x1, x2, x3, x4, y0, y1, y2, y3, y4, u0, u1, u2, u3, u4, z0, z1, z2, z3, z4]) rfl ⟨Told.err 2, s, S, H, cap, rfl, (HRUN.out.turn HB0.out HC1.out HM1.out (Out.refl _ _) (by (repeat (refine Mod.set ?_ (by first | exact hbr | exact hbx))); exact Mod.refl _ _) s.T).1, (HRUN.out.turn HB0.out HC1.out HM1.out (Out.refl _ _) (by (repeat (refine Mod.set ?_ (by first | exact hbr | exact hbx))); exact Mod.refl _ _) s.T).2, .refused (by show (0 : Int) ≤ 0; omega) (by show (0 : Int) ≤ 3; omega)⟩


set_option maxRecDepth 100000 in
set_option maxHeartbeats 4000000 in
theorem does_unmap (B o a c fs m t root n k : Nat) (A fr q N : Int) (cp : Bool) (w : World) (S : Nat → Prop) (s : Sta) (H : Option Addr) (cap : Nat) (h : RunAt w B o a c fs m t root S s H cap) (hf : Freed.Fine s n k) (hk : k ≤ 100000) :
    Calls Tryz.prog 11 #[.pointer (some ⟨o, 0, none⟩), .agg #[.int .i64 1, .int .u64 A, .int .i64 fr, .int .u8 q, .bool cp, .int .i64 N]] w (DoesPost w B o a c fs m t root S H ⟨1, A, fr, q, cp, N⟩ s) := by
  have hO := h.own
  obtain ⟨l1, l2, l3, l4, l5⟩ := h.lts
  have hpos := hO.cache.pool.pos
  obtain ⟨w0, hw0⟩ : ∃ w0, w0 = ((w.alloc (.cells #[.int .i64 1, .int .u64 A, .int .i64 fr, .int .u8 q, .bool cp, .int .i64 N] 38)).alloc (.cells #[.int .i64 0, .int .i64 0, .int .u8 0, .bool false, .int .i64 0] 34)).alloc (.cells #[.int .i64 0, .int .i64 0, .int .u8 0, .bool false, .int .i64 0] 34) := ⟨_, rfl⟩
  have hB0 : Below w.heap.size w w0 := by (rw [hw0]; exact (((Below.refl _ _).alloc (Nat.le_refl _) _).alloc (by simp) _).alloc (by simp; omega) _)
  have hs0 : w0.heap.size = w.heap.size + 1 + 1 + 1 := by (rw [hw0]; simp)
  have hE0 : w0.heap[w.heap.size]? = some (.cells #[.int .i64 1, .int .u64 A, .int .i64 fr, .int .u8 q, .bool cp, .int .i64 N] 38 (0, 0)) := by (rw [hw0]; exact (Below.heap_alloc _ _ _ (by simp; omega)).trans ((Below.heap_alloc _ _ _ (by simp)).trans (heap_alloc_new w _)))
  have hR0 : w0.heap[w.heap.size + 1]? = some (.cells #[.int .i64 0, .int .i64 0, .int .u8 0, .bool false, .int .i64 0] 34 (0, 0)) := by
    (rw [hw0]
     have e : (w.alloc (.cells #[.int .i64 1, .int .u64 A, .int .i64 fr, .int .u8 q, .bool cp, .int .i64 N] 38)).heap.size = w.heap.size + 1 := by simp
     rw [← e]
     exact (Below.heap_alloc _ _ _ (by simp)).trans (heap_alloc_new _ _))
  have hX0 : w0.heap[w.heap.size + 1 + 1]? = some (.cells #[.int .i64 0, .int .i64 0, .int .u8 0, .bool false, .int .i64 0] 34 (0, 0)) := by
    (rw [hw0]
     have e : ((w.alloc (.cells #[.int .i64 1, .int .u64 A, .int .i64 fr, .int .u8 q, .bool cp, .int .i64 N] 38)).alloc (.cells #[.int .i64 0, .int .i64 0, .int .u8 0, .bool false, .int .i64 0] 34)).heap.size = w.heap.size + 1 + 1 := by simp
     rw [← e]
     exact heap_alloc_new _ _)
  have hdr : Below w.heap.size w w0.drew := hB0.drew
  have e0 : w0.cell? ⟨w.heap.size, 0, none⟩ = some (.int .i64 1) := one_block hE0 0
  have e1 : w0.cell? ⟨w.heap.size, 1, none⟩ = some (.int .u64 A) := one_block hE0 1
  have e2 : w0.cell? ⟨w.heap.size, 2, none⟩ = some (.int .i64 fr) := one_block hE0 2
  have e3 : w0.cell? ⟨w.heap.size, 3, none⟩ = some (.int .u8 q) := one_block hE0 3
  have e4 : w0.cell? ⟨w.heap.size, 4, none⟩ = some (.bool cp) := one_block hE0 4
  have e5 : w0.cell? ⟨w.heap.size, 5, none⟩ = some (.int .i64 N) := one_block hE0 5
  have o0 : w0.cell? ⟨o, 0, none⟩ = some (.pointer (some ⟨a, 0, none⟩)) := (hB0.cell (p := ⟨o, 0, none⟩) l1).trans (one_block hO.self 0)
  have o1 : w0.cell? ⟨o, 1, none⟩ = some (.pointer (some ⟨c, 0, none⟩)) := (hB0.cell (p := ⟨o, 1, none⟩) l1).trans (one_block hO.self 1)
  have o2 : w0.cell? ⟨o, 2, none⟩ = some (.pointer (some ⟨t, 0, none⟩)) := (hB0.cell (p := ⟨o, 2, none⟩) l1).trans (one_block hO.self 2)
  have o3 : w0.cell? ⟨o, 3, none⟩ = some (.slice H s.hold.length cap) := (hB0.cell (p := ⟨o, 3, none⟩) l1).trans (one_block hO.self 3)
  have HRUN := Lib.hid h
  have HOWN := Lib.hid hO
  have HW0 := Lib.hid hw0
  have HE0 := Lib.hid hE0
  have HR0 := Lib.hid hR0
  have HX0 := Lib.hid hX0
  have HB0 := Lib.hid hB0
  clear h hO hw0 hE0 hR0 hX0 hB0
  have hcall := unmap_gone (some ⟨t, 0, none⟩) A w0.drew (TabSelf.keep (hdr.block t (by omega)) HOWN.out.tab).gone
  have HC := Lib.hid hcall
  clear hcall
  go_enter Tryz.func11, Tryz.ntmps11
  go_upto_region 1 with (fail)
  go_upto_region 6 with (fail)
  rw [← HW0.out]
  go_still_tail 6, (by kernel_rfl)
  go_wp2_with fail
  refine (HC.out).mono ?_
  rintro e w1 ⟨rfl, hb1⟩
  have hC1 := (HOWN.out.cache.below hdr).below hb1
  have hm1 : Mod (fun b => S b ∨ b = m ∨ b = c) w0 w1 := (Mod.of hb1).undrew
  have HC1 := Lib.hid hC1
  have HM1 := Lib.hid hm1
  clear hC1 hm1 hb1 e0 e1 e2 e3 e4 e5 o0 o1 o2 o3
  have hbr : w.heap.size ≤ w.heap.size + 1 ∧ w.heap.size + 1 < w0.heap.size := by omega
  have hbx : w.heap.size ≤ w.heap.size + 1 + 1 ∧ w.heap.size + 1 + 1 < w0.heap.size := by omega
  have hz1 := (HM1.out).size
  have nb : ∀ b, w.heap.size ≤ b → ¬ (S b ∨ b = m ∨ b = c) := fun b hb e => by (rcases e with e | e | e; have := l5 b e; omega; omega; omega)
  have hR1 := ((HM1.out).block (w.heap.size + 1) (by omega) (nb _ (by omega))).trans HR0.out
  have hX1 := ((HM1.out).block (w.heap.size + 1 + 1) (by omega) (nb _ (by omega))).trans HX0.out
  have hlt1 : w.heap.size + 1 < w1.heap.size := by omega
  have hlt2 : w.heap.size + 1 + 1 < w1.heap.size := by omega
  have x0 : w1.cell? ⟨w.heap.size + 1 + 1, 0, none⟩ = some (.int .i64 0) := one_block hX1 0
  have x1 : w1.cell? ⟨w.heap.size + 1 + 1, 1, none⟩ = some (.int .i64 0) := one_block hX1 1
  have x2 : w1.cell? ⟨w.heap.size + 1 + 1, 2, none⟩ = some (.int .u8 0) := one_block hX1 2
  have x3 : w1.cell? ⟨w.heap.size + 1 + 1, 3, none⟩ = some (.bool false) := one_block hX1 3
  have x4 : w1.cell? ⟨w.heap.size + 1 + 1, 4, none⟩ = some (.int .i64 0) := one_block hX1 4
  have y0 : w1.cell? ⟨w.heap.size + 1, 0, none⟩ = some (.int .i64 0) := one_block hR1 0
  have y1 : w1.cell? ⟨w.heap.size + 1, 1, none⟩ = some (.int .i64 0) := one_block hR1 1
  have y2 : w1.cell? ⟨w.heap.size + 1, 2, none⟩ = some (.int .u8 0) := one_block hR1 2
  have y3 : w1.cell? ⟨w.heap.size + 1, 3, none⟩ = some (.bool false) := one_block hR1 3
  have y4 : w1.cell? ⟨w.heap.size + 1, 4, none⟩ = some (.int .i64 0) := one_block hR1 4
  have u0 := one_free hX1 0
  have u1 := one_free hX1 1
  have u2 := one_free hX1 2
  have u3 := one_free hX1 3
  have u4 := one_free hX1 4
  have z0 := one_free hR1 0
  have z1 := one_free hR1 1
  have z2 := one_free hR1 2
  have z3 := one_free hR1 3
  have z4 := one_free hR1 4
  clear hR1 hX1
  go_wp2_with fail
  skip
  exact bodyPost_ret (v := (Told.err 2).val) (by simp [results, Tryz.results11, go_sem, Told.val, Told.err, noLeaf, hlt1, hlt2, x0, x1, x2, x3, x4, y0, y1, y2, y3, y4, u0, u1, u2, u3, u4, z0, z1, z2, z3, z4]) rfl ⟨Told.err 2, s, S, H, cap, rfl, (HRUN.out.turn HB0.out HC1.out HM1.out (Out.refl _ _) (by (repeat (refine Mod.set ?_ (by first | exact hbr | exact hbx))); exact Mod.refl _ _) s.T).1, (HRUN.out.turn HB0.out HC1.out HM1.out (Out.refl _ _) (by (repeat (refine Mod.set ?_ (by first | exact hbr | exact hbx))); exact Mod.refl _ _) s.T).2, .refused (by show (0 : Int) ≤ 1; omega) (by show (1 : Int) ≤ 3; omega)⟩


set_option maxRecDepth 100000 in
set_option maxHeartbeats 4000000 in
theorem does_set (B o a c fs m t root n k : Nat) (A fr q N : Int) (cp : Bool) (w : World) (S : Nat → Prop) (s : Sta) (H : Option Addr) (cap : Nat) (h : RunAt w B o a c fs m t root S s H cap) (hf : Freed.Fine s n k) (hk : k ≤ 100000) :
    Calls Tryz.prog 11 #[.pointer (some ⟨o, 0, none⟩), .agg #[.int .i64 2, .int .u64 A, .int .i64 fr, .int .u8 q, .bool cp, .int .i64 N]] w (DoesPost w B o a c fs m t root S H ⟨2, A, fr, q, cp, N⟩ s) := by
  have hO := h.own
  obtain ⟨l1, l2, l3, l4, l5⟩ := h.lts
  have hpos := hO.cache.pool.pos
  obtain ⟨w0, hw0⟩ : ∃ w0, w0 = ((w.alloc (.cells #[.int .i64 2, .int .u64 A, .int .i64 fr, .int .u8 q, .bool cp, .int .i64 N] 38)).alloc (.cells #[.int .i64 0, .int .i64 0, .int .u8 0, .bool false, .int .i64 0] 34)).alloc (.cells #[.int .i64 0, .int .i64 0, .int .u8 0, .bool false, .int .i64 0] 34) := ⟨_, rfl⟩
  have hB0 : Below w.heap.size w w0 := by (rw [hw0]; exact (((Below.refl _ _).alloc (Nat.le_refl _) _).alloc (by simp) _).alloc (by simp; omega) _)
  have hs0 : w0.heap.size = w.heap.size + 1 + 1 + 1 := by (rw [hw0]; simp)
  have hE0 : w0.heap[w.heap.size]? = some (.cells #[.int .i64 2, .int .u64 A, .int .i64 fr, .int .u8 q, .bool cp, .int .i64 N] 38 (0, 0)) := by (rw [hw0]; exact (Below.heap_alloc _ _ _ (by simp; omega)).trans ((Below.heap_alloc _ _ _ (by simp)).trans (heap_alloc_new w _)))
  have hR0 : w0.heap[w.heap.size + 1]? = some (.cells #[.int .i64 0, .int .i64 0, .int .u8 0, .bool false, .int .i64 0] 34 (0, 0)) := by
    (rw [hw0]
     have e : (w.alloc (.cells #[.int .i64 2, .int .u64 A, .int .i64 fr, .int .u8 q, .bool cp, .int .i64 N] 38)).heap.size = w.heap.size + 1 := by simp
     rw [← e]
     exact (Below.heap_alloc _ _ _ (by simp)).trans (heap_alloc_new _ _))
  have hX0 : w0.heap[w.heap.size + 1 + 1]? = some (.cells #[.int .i64 0, .int .i64 0, .int .u8 0, .bool false, .int .i64 0] 34 (0, 0)) := by
    (rw [hw0]
     have e : ((w.alloc (.cells #[.int .i64 2, .int .u64 A, .int .i64 fr, .int .u8 q, .bool cp, .int .i64 N] 38)).alloc (.cells #[.int .i64 0, .int .i64 0, .int .u8 0, .bool false, .int .i64 0] 34)).heap.size = w.heap.size + 1 + 1 := by simp
     rw [← e]
     exact heap_alloc_new _ _)
  have hdr : Below w.heap.size w w0.drew := hB0.drew
  have e0 : w0.cell? ⟨w.heap.size, 0, none⟩ = some (.int .i64 2) := one_block hE0 0
  have e1 : w0.cell? ⟨w.heap.size, 1, none⟩ = some (.int .u64 A) := one_block hE0 1
  have e2 : w0.cell? ⟨w.heap.size, 2, none⟩ = some (.int .i64 fr) := one_block hE0 2
  have e3 : w0.cell? ⟨w.heap.size, 3, none⟩ = some (.int .u8 q) := one_block hE0 3
  have e4 : w0.cell? ⟨w.heap.size, 4, none⟩ = some (.bool cp) := one_block hE0 4
  have e5 : w0.cell? ⟨w.heap.size, 5, none⟩ = some (.int .i64 N) := one_block hE0 5
  have o0 : w0.cell? ⟨o, 0, none⟩ = some (.pointer (some ⟨a, 0, none⟩)) := (hB0.cell (p := ⟨o, 0, none⟩) l1).trans (one_block hO.self 0)
  have o1 : w0.cell? ⟨o, 1, none⟩ = some (.pointer (some ⟨c, 0, none⟩)) := (hB0.cell (p := ⟨o, 1, none⟩) l1).trans (one_block hO.self 1)
  have o2 : w0.cell? ⟨o, 2, none⟩ = some (.pointer (some ⟨t, 0, none⟩)) := (hB0.cell (p := ⟨o, 2, none⟩) l1).trans (one_block hO.self 2)
  have o3 : w0.cell? ⟨o, 3, none⟩ = some (.slice H s.hold.length cap) := (hB0.cell (p := ⟨o, 3, none⟩) l1).trans (one_block hO.self 3)
  have HRUN := Lib.hid h
  have HOWN := Lib.hid hO
  have HW0 := Lib.hid hw0
  have HE0 := Lib.hid hE0
  have HR0 := Lib.hid hR0
  have HX0 := Lib.hid hX0
  have HB0 := Lib.hid hB0
  clear h hO hw0 hE0 hR0 hX0 hB0
  have hcall := set_gone (some ⟨t, 0, none⟩) A fr q cp w0.drew (TabSelf.keep (hdr.block t (by omega)) HOWN.out.tab).gone
  have HC := Lib.hid hcall
  clear hcall
  go_enter Tryz.func11, Tryz.ntmps11
  go_upto_region 1 with (fail)
  go_upto_region 8 with (fail)
  rw [← HW0.out]
  go_still_tail 13, (by kernel_rfl)
  go_wp2_with fail
  refine (HC.out).mono ?_
  rintro e w1 ⟨rfl, hb1⟩
  have hC1 := (HOWN.out.cache.below hdr).below hb1
  have hm1 : Mod (fun b => S b ∨ b = m ∨ b = c) w0 w1 := (Mod.of hb1).undrew
  have HC1 := Lib.hid hC1
  have HM1 := Lib.hid hm1
  clear hC1 hm1 hb1 e0 e1 e2 e3 e4 e5 o0 o1 o2 o3
  have hbr : w.heap.size ≤ w.heap.size + 1 ∧ w.heap.size + 1 < w0.heap.size := by omega
  have hbx : w.heap.size ≤ w.heap.size + 1 + 1 ∧ w.heap.size + 1 + 1 < w0.heap.size := by omega
  have hz1 := (HM1.out).size
  have nb : ∀ b, w.heap.size ≤ b → ¬ (S b ∨ b = m ∨ b = c) := fun b hb e => by (rcases e with e | e | e; have := l5 b e; omega; omega; omega)
  have hR1 := ((HM1.out).block (w.heap.size + 1) (by omega) (nb _ (by omega))).trans HR0.out
  have hX1 := ((HM1.out).block (w.heap.size + 1 + 1) (by omega) (nb _ (by omega))).trans HX0.out
  have hlt1 : w.heap.size + 1 < w1.heap.size := by omega
  have hlt2 : w.heap.size + 1 + 1 < w1.heap.size := by omega
  have x0 : w1.cell? ⟨w.heap.size + 1 + 1, 0, none⟩ = some (.int .i64 0) := one_block hX1 0
  have x1 : w1.cell? ⟨w.heap.size + 1 + 1, 1, none⟩ = some (.int .i64 0) := one_block hX1 1
  have x2 : w1.cell? ⟨w.heap.size + 1 + 1, 2, none⟩ = some (.int .u8 0) := one_block hX1 2
  have x3 : w1.cell? ⟨w.heap.size + 1 + 1, 3, none⟩ = some (.bool false) := one_block hX1 3
  have x4 : w1.cell? ⟨w.heap.size + 1 + 1, 4, none⟩ = some (.int .i64 0) := one_block hX1 4
  have y0 : w1.cell? ⟨w.heap.size + 1, 0, none⟩ = some (.int .i64 0) := one_block hR1 0
  have y1 : w1.cell? ⟨w.heap.size + 1, 1, none⟩ = some (.int .i64 0) := one_block hR1 1
  have y2 : w1.cell? ⟨w.heap.size + 1, 2, none⟩ = some (.int .u8 0) := one_block hR1 2
  have y3 : w1.cell? ⟨w.heap.size + 1, 3, none⟩ = some (.bool false) := one_block hR1 3
  have y4 : w1.cell? ⟨w.heap.size + 1, 4, none⟩ = some (.int .i64 0) := one_block hR1 4
  have u0 := one_free hX1 0
  have u1 := one_free hX1 1
  have u2 := one_free hX1 2
  have u3 := one_free hX1 3
  have u4 := one_free hX1 4
  have z0 := one_free hR1 0
  have z1 := one_free hR1 1
  have z2 := one_free hR1 2
  have z3 := one_free hR1 3
  have z4 := one_free hR1 4
  clear hR1 hX1
  go_wp2_with fail
  skip
  exact bodyPost_ret (v := (Told.err 2).val) (by simp [results, Tryz.results11, go_sem, Told.val, Told.err, noLeaf, hlt1, hlt2, x0, x1, x2, x3, x4, y0, y1, y2, y3, y4, u0, u1, u2, u3, u4, z0, z1, z2, z3, z4]) rfl ⟨Told.err 2, s, S, H, cap, rfl, (HRUN.out.turn HB0.out HC1.out HM1.out (Out.refl _ _) (by (repeat (refine Mod.set ?_ (by first | exact hbr | exact hbx))); exact Mod.refl _ _) s.T).1, (HRUN.out.turn HB0.out HC1.out HM1.out (Out.refl _ _) (by (repeat (refine Mod.set ?_ (by first | exact hbr | exact hbx))); exact Mod.refl _ _) s.T).2, .refused (by show (0 : Int) ≤ 2; omega) (by show (2 : Int) ≤ 3; omega)⟩


set_option maxRecDepth 100000 in
set_option maxHeartbeats 4000000 in
theorem does_find (B o a c fs m t root n k : Nat) (A fr q N : Int) (cp : Bool) (w : World) (S : Nat → Prop) (s : Sta) (H : Option Addr) (cap : Nat) (h : RunAt w B o a c fs m t root S s H cap) (hf : Freed.Fine s n k) (hk : k ≤ 100000) :
    Calls Tryz.prog 11 #[.pointer (some ⟨o, 0, none⟩), .agg #[.int .i64 3, .int .u64 A, .int .i64 fr, .int .u8 q, .bool cp, .int .i64 N]] w (DoesPost w B o a c fs m t root S H ⟨3, A, fr, q, cp, N⟩ s) := by
  have hO := h.own
  obtain ⟨l1, l2, l3, l4, l5⟩ := h.lts
  have hpos := hO.cache.pool.pos
  obtain ⟨w0, hw0⟩ : ∃ w0, w0 = ((w.alloc (.cells #[.int .i64 3, .int .u64 A, .int .i64 fr, .int .u8 q, .bool cp, .int .i64 N] 38)).alloc (.cells #[.int .i64 0, .int .i64 0, .int .u8 0, .bool false, .int .i64 0] 34)).alloc (.cells #[.int .i64 0, .int .i64 0, .int .u8 0, .bool false, .int .i64 0] 34) := ⟨_, rfl⟩
  have hB0 : Below w.heap.size w w0 := by (rw [hw0]; exact (((Below.refl _ _).alloc (Nat.le_refl _) _).alloc (by simp) _).alloc (by simp; omega) _)
  have hs0 : w0.heap.size = w.heap.size + 1 + 1 + 1 := by (rw [hw0]; simp)
  have hE0 : w0.heap[w.heap.size]? = some (.cells #[.int .i64 3, .int .u64 A, .int .i64 fr, .int .u8 q, .bool cp, .int .i64 N] 38 (0, 0)) := by (rw [hw0]; exact (Below.heap_alloc _ _ _ (by simp; omega)).trans ((Below.heap_alloc _ _ _ (by simp)).trans (heap_alloc_new w _)))
  have hR0 : w0.heap[w.heap.size + 1]? = some (.cells #[.int .i64 0, .int .i64 0, .int .u8 0, .bool false, .int .i64 0] 34 (0, 0)) := by
    (rw [hw0]
     have e : (w.alloc (.cells #[.int .i64 3, .int .u64 A, .int .i64 fr, .int .u8 q, .bool cp, .int .i64 N] 38)).heap.size = w.heap.size + 1 := by simp
     rw [← e]
     exact (Below.heap_alloc _ _ _ (by simp)).trans (heap_alloc_new _ _))
  have hX0 : w0.heap[w.heap.size + 1 + 1]? = some (.cells #[.int .i64 0, .int .i64 0, .int .u8 0, .bool false, .int .i64 0] 34 (0, 0)) := by
    (rw [hw0]
     have e : ((w.alloc (.cells #[.int .i64 3, .int .u64 A, .int .i64 fr, .int .u8 q, .bool cp, .int .i64 N] 38)).alloc (.cells #[.int .i64 0, .int .i64 0, .int .u8 0, .bool false, .int .i64 0] 34)).heap.size = w.heap.size + 1 + 1 := by simp
     rw [← e]
     exact heap_alloc_new _ _)
  have hdr : Below w.heap.size w w0.drew := hB0.drew
  have e0 : w0.cell? ⟨w.heap.size, 0, none⟩ = some (.int .i64 3) := one_block hE0 0
  have e1 : w0.cell? ⟨w.heap.size, 1, none⟩ = some (.int .u64 A) := one_block hE0 1
  have e2 : w0.cell? ⟨w.heap.size, 2, none⟩ = some (.int .i64 fr) := one_block hE0 2
  have e3 : w0.cell? ⟨w.heap.size, 3, none⟩ = some (.int .u8 q) := one_block hE0 3
  have e4 : w0.cell? ⟨w.heap.size, 4, none⟩ = some (.bool cp) := one_block hE0 4
  have e5 : w0.cell? ⟨w.heap.size, 5, none⟩ = some (.int .i64 N) := one_block hE0 5
  have o0 : w0.cell? ⟨o, 0, none⟩ = some (.pointer (some ⟨a, 0, none⟩)) := (hB0.cell (p := ⟨o, 0, none⟩) l1).trans (one_block hO.self 0)
  have o1 : w0.cell? ⟨o, 1, none⟩ = some (.pointer (some ⟨c, 0, none⟩)) := (hB0.cell (p := ⟨o, 1, none⟩) l1).trans (one_block hO.self 1)
  have o2 : w0.cell? ⟨o, 2, none⟩ = some (.pointer (some ⟨t, 0, none⟩)) := (hB0.cell (p := ⟨o, 2, none⟩) l1).trans (one_block hO.self 2)
  have o3 : w0.cell? ⟨o, 3, none⟩ = some (.slice H s.hold.length cap) := (hB0.cell (p := ⟨o, 3, none⟩) l1).trans (one_block hO.self 3)
  have HRUN := Lib.hid h
  have HOWN := Lib.hid hO
  have HW0 := Lib.hid hw0
  have HE0 := Lib.hid hE0
  have HR0 := Lib.hid hR0
  have HX0 := Lib.hid hX0
  have HB0 := Lib.hid hB0
  clear h hO hw0 hE0 hR0 hX0 hB0
  have nb : ∀ b, w.heap.size ≤ b → ¬ (S b ∨ b = m ∨ b = c) := fun b hb e => by (rcases e with e | e | e; have := l5 b e; omega; omega; omega)
  have hbr : w.heap.size ≤ w.heap.size + 1 ∧ w.heap.size + 1 < w0.heap.size := by omega
  have hbx : w.heap.size ≤ w.heap.size + 1 + 1 ∧ w.heap.size + 1 + 1 < w0.heap.size := by omega
  have hcall := find_gone (some ⟨t, 0, none⟩) A w0.drew (TabSelf.keep (hdr.block t (by omega)) HOWN.out.tab).gone
  have hcall2 : Calls Tryz.prog 30 #[.pointer (some ⟨t, 0, none⟩), .int .u64 A] w0.drew fun e w1 => e = .returned (.tuple #[.agg #[.int .i64 0, .int .u8 0, .bool false], .int .i64 2]) ∧ Hid (CacheAt w1 S c a fs m s.clock s.p s.L) ∧ Hid (Mod (fun b => S b ∨ b = m ∨ b = c) w0 w1) ∧ BoxAt w1 (w.heap.size + 1 + 1) ∧ BoxAt w1 (w.heap.size + 1) := by
    refine hcall.mono ?_
    rintro e w1 ⟨he, hb⟩
    have hm1 : Mod (fun b => S b ∨ b = m ∨ b = c) w0 w1 := (Mod.of hb).undrew
    exact ⟨he, Lib.hid ((HOWN.out.cache.below hdr).below hb), Lib.hid hm1, told_box HX0.out hm1 (nb _ (by omega)), told_box HR0.out hm1 (nb _ (by omega))⟩
  have HC := Lib.hid hcall2
  clear hcall hcall2
  go_enter Tryz.func11, Tryz.ntmps11
  go_upto_region 1 with (fail)
  go_upto_region 10 with (fail)
  rw [← HW0.out]
  go_region_with ((first
    | (go_at_call 30; refine (HC.out).mono ?_; rintro e w1 ⟨rfl, HC1, HM1, ⟨x0, x1, x2, x3, x4, u0, u1, u2, u3, u4, hlt2⟩, ⟨y0, y1, y2, y3, y4, z0, z1, z2, z3, z4, hlt1⟩⟩)))
  all_goals (go_wp2_with fail; exact bodyPost_ret (v := ((Told.mk 0 noLeaf 2)).val) (by simp [results, Tryz.results11, go_sem, Told.val, Told.err, noLeaf, hlt1, hlt2, x0, x1, x2, x3, x4, y0, y1, y2, y3, y4, u0, u1, u2, u3, u4, z0, z1, z2, z3, z4]) rfl ⟨(Told.mk 0 noLeaf 2), s, S, H, cap, rfl, (HRUN.out.turn HB0.out HC1.out HM1.out (Out.refl _ _) (by (repeat (refine Mod.set ?_ (by first | exact hbr | exact hbx))); exact Mod.refl _ _) s.T).1, (HRUN.out.turn HB0.out HC1.out HM1.out (Out.refl _ _) (by (repeat (refine Mod.set ?_ (by first | exact hbr | exact hbx))); exact Mod.refl _ _) s.T).2, .refused (by show (0 : Int) ≤ 3; omega) (by show (3 : Int) ≤ 3; omega)⟩)

set_option maxRecDepth 100000 in
set_option maxHeartbeats 4000000 in
theorem does_free (B o a c fs m t root n k : Nat) (A fr q N : Int) (cp : Bool) (w : World) (S : Nat → Prop) (s : Sta) (H : Option Addr) (cap : Nat) (h : RunAt w B o a c fs m t root S s H cap) (hf : Freed.Fine s n k) :
    Calls Tryz.prog 11 #[.pointer (some ⟨o, 0, none⟩), .agg #[.int .i64 7, .int .u64 A, .int .i64 fr, .int .u8 q, .bool cp, .int .i64 N]] w (DoesPost w B o a c fs m t root S H ⟨7, A, fr, q, cp, N⟩ s) := by
  have hO := h.own
  obtain ⟨l1, l2, l3, l4, l5⟩ := h.lts
  have hpos := hO.cache.pool.pos
  obtain ⟨w0, hw0⟩ : ∃ w0, w0 = ((w.alloc (.cells #[.int .i64 7, .int .u64 A, .int .i64 fr, .int .u8 q, .bool cp, .int .i64 N] 38)).alloc (.cells #[.int .i64 0, .int .i64 0, .int .u8 0, .bool false, .int .i64 0] 34)).alloc (.cells #[.int .i64 0, .int .i64 0, .int .u8 0, .bool false, .int .i64 0] 34) := ⟨_, rfl⟩
  have hB0 : Below w.heap.size w w0 := by (rw [hw0]; exact (((Below.refl _ _).alloc (Nat.le_refl _) _).alloc (by simp) _).alloc (by simp; omega) _)
  have hs0 : w0.heap.size = w.heap.size + 1 + 1 + 1 := by (rw [hw0]; simp)
  have hE0 : w0.heap[w.heap.size]? = some (.cells #[.int .i64 7, .int .u64 A, .int .i64 fr, .int .u8 q, .bool cp, .int .i64 N] 38 (0, 0)) := by (rw [hw0]; exact (Below.heap_alloc _ _ _ (by simp; omega)).trans ((Below.heap_alloc _ _ _ (by simp)).trans (heap_alloc_new w _)))
  have hR0 : w0.heap[w.heap.size + 1]? = some (.cells #[.int .i64 0, .int .i64 0, .int .u8 0, .bool false, .int .i64 0] 34 (0, 0)) := by
    (rw [hw0]
     have e : (w.alloc (.cells #[.int .i64 7, .int .u64 A, .int .i64 fr, .int .u8 q, .bool cp, .int .i64 N] 38)).heap.size = w.heap.size + 1 := by simp
     rw [← e]
     exact (Below.heap_alloc _ _ _ (by simp)).trans (heap_alloc_new _ _))
  have hX0 : w0.heap[w.heap.size + 1 + 1]? = some (.cells #[.int .i64 0, .int .i64 0, .int .u8 0, .bool false, .int .i64 0] 34 (0, 0)) := by
    (rw [hw0]
     have e : ((w.alloc (.cells #[.int .i64 7, .int .u64 A, .int .i64 fr, .int .u8 q, .bool cp, .int .i64 N] 38)).alloc (.cells #[.int .i64 0, .int .i64 0, .int .u8 0, .bool false, .int .i64 0] 34)).heap.size = w.heap.size + 1 + 1 := by simp
     rw [← e]
     exact heap_alloc_new _ _)
  have hdr : Below w.heap.size w w0.drew := hB0.drew
  have e0 : w0.cell? ⟨w.heap.size, 0, none⟩ = some (.int .i64 7) := one_block hE0 0
  have e1 : w0.cell? ⟨w.heap.size, 1, none⟩ = some (.int .u64 A) := one_block hE0 1
  have e2 : w0.cell? ⟨w.heap.size, 2, none⟩ = some (.int .i64 fr) := one_block hE0 2
  have e3 : w0.cell? ⟨w.heap.size, 3, none⟩ = some (.int .u8 q) := one_block hE0 3
  have e4 : w0.cell? ⟨w.heap.size, 4, none⟩ = some (.bool cp) := one_block hE0 4
  have e5 : w0.cell? ⟨w.heap.size, 5, none⟩ = some (.int .i64 N) := one_block hE0 5
  have o0 : w0.cell? ⟨o, 0, none⟩ = some (.pointer (some ⟨a, 0, none⟩)) := (hB0.cell (p := ⟨o, 0, none⟩) l1).trans (one_block hO.self 0)
  have o1 : w0.cell? ⟨o, 1, none⟩ = some (.pointer (some ⟨c, 0, none⟩)) := (hB0.cell (p := ⟨o, 1, none⟩) l1).trans (one_block hO.self 1)
  have o2 : w0.cell? ⟨o, 2, none⟩ = some (.pointer (some ⟨t, 0, none⟩)) := (hB0.cell (p := ⟨o, 2, none⟩) l1).trans (one_block hO.self 2)
  have o3 : w0.cell? ⟨o, 3, none⟩ = some (.slice H s.hold.length cap) := (hB0.cell (p := ⟨o, 3, none⟩) l1).trans (one_block hO.self 3)
  have HRUN := Lib.hid h
  have HOWN := Lib.hid hO
  have HW0 := Lib.hid hw0
  have HE0 := Lib.hid hE0
  have HR0 := Lib.hid hR0
  have HX0 := Lib.hid hX0
  have HB0 := Lib.hid hB0
  clear h hO hw0 hE0 hR0 hX0 hB0
  have hbr : w.heap.size ≤ w.heap.size + 1 ∧ w.heap.size + 1 < w0.heap.size := by omega
  have hbx : w.heap.size ≤ w.heap.size + 1 + 1 ∧ w.heap.size + 1 + 1 < w0.heap.size := by omega
  have HC := Lib.hid (tfree_gone (some ⟨t, 0, none⟩) w0 (TabSelf.keep (HB0.out.block t (by omega)) HOWN.out.tab).gone)
  have hm0 : Mod (fun b => S b ∨ b = m ∨ b = c) w0 w0 := Mod.refl _ _
  obtain ⟨x0, x1, x2, x3, x4, u0, u1, u2, u3, u4, hlt2⟩ := told_box (X := fun _ => False) HX0.out (Mod.refl _ _) id
  obtain ⟨y0, y1, y2, y3, y4, z0, z1, z2, z3, z4, hlt1⟩ := told_box (X := fun _ => False) HR0.out (Mod.refl _ _) id
  go_enter Tryz.func11, Tryz.ntmps11
  go_upto_region 1 with (fail)
  go_upto_region 23 with (fail)
  rw [← HW0.out]
  go_wp2_with (first
    | (go_at_call 50; refine (HC.out).mono ?_; rintro e w1 ⟨rfl, rfl⟩)
    | fail)
  exact bodyPost_ret (v := ((Told.err 0)).val) (by simp [results, Tryz.results11, go_sem, Told.val, Told.err, noLeaf, hlt1, hlt2, x0, x1, x2, x3, x4, y0, y1, y2, y3, y4, u0, u1, u2, u3, u4, z0, z1, z2, z3, z4]) rfl ⟨(Told.err 0), s, S, H, cap, rfl, (HRUN.out.turn HB0.out (HOWN.out.cache.below HB0.out) hm0 (Out.refl _ _) (by (repeat (refine Mod.set ?_ (by first | exact hbr | exact hbx))); exact Mod.refl _ _) s.T).1, (HRUN.out.turn HB0.out (HOWN.out.cache.below HB0.out) hm0 (Out.refl _ _) (by (repeat (refine Mod.set ?_ (by first | exact hbr | exact hbx))); exact Mod.refl _ _) s.T).2, .free rfl⟩

theorem does_any (B o a c fs m t root n k : Nat) (op : Op) (w : World) (S : Nat → Prop) (s : Sta) (H : Option Addr) (cap : Nat) (h : RunAt w B o a c fs m t root S s H cap) (hf : Freed.Fine s n k) (hk : k ≤ 100000) (hop : op.Ok) :
    Calls Tryz.prog 11 #[.pointer (some ⟨o, 0, none⟩), op.val] w (DoesPost w B o a c fs m t root S H op s) := by
  obtain ⟨K, A, fr, q, cp, N⟩ := op
  have hc : K = 0 ∨ K = 1 ∨ K = 2 ∨ K = 3 ∨ K = 4 ∨ K = 5 ∨ K = 6 ∨ K = 7 ∨ (K < 0 ∨ 7 < K) := by omega
  rcases hc with rfl | rfl | rfl | rfl | rfl | rfl | rfl | rfl | hK
  · exact does_map B o a c fs m t root n k A fr q N cp w S s H cap h hf hk
  · exact does_unmap B o a c fs m t root n k A fr q N cp w S s H cap h hf hk
  · exact does_set B o a c fs m t root n k A fr q N cp w S s H cap h hf hk
  · exact does_find B o a c fs m t root n k A fr q N cp w S s H cap h hf hk
  · exact does_take B o a c fs m t root n k A fr q N cp w S s H cap h hf hk
  · exact does_get B o a c fs m t root n k A fr q N cp w S s H cap h hf hk hop
  · by_cases hN : N < 0 ∨ (s.hold.length : Int) ≤ N
    · exact does_giveNo B o a c fs m t root n k A fr q N cp w S s H cap h hf hk hN
    · obtain ⟨i, rfl⟩ : ∃ i : Nat, N = (i : Int) := ⟨N.toNat, by omega⟩
      have hi : i < s.hold.length := by omega
      exact does_give B o a c fs m t root n k i s.hold[i] A fr q cp w S s H cap h hf hk (List.getElem?_eq_getElem hi)
  · exact does_free B o a c fs m t root n k A fr q N cp w S s H cap h hf
  · exact does_other B o a c fs m t root n k K A fr q N cp w S s H cap h hf hK

end Freed
end Go.Proofs.YtmkgdgfbdmjeeaaGreatDoor
