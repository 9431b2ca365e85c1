/- What is done with a table: does, Map, Unmap, Set, Find. What is done with a table: does, map. What is done with a table: does, unmap. What is done with a table: does, set. What is done with a table: does, get. What is done with a table: does, find; another kind. What is done with a table: does, Take. What is done with a table: does, Give. The table's statements: vast, made of too few, does, behind. -/
import Derived.Test.YtmkgdgfbdmjeeaaGreatDoorTsB
import Derived.Test.YtmkgdgfbdmjeeaaGreatDoorLwA
import Derived.Test.YtmkgdgfbdmjeeaaGreatDoorVpZ
import Derived.StillTailTactics
import Derived.Deep.RegionHeld3
import Derived.Deep.RegionLaw
import Derived.Deep.AppendLies
import Derived.Deep.QuietTactic
import Derived.BigQuiet
import Derived.Lib.QuietBelow
import Derived.Test.YtmkgdgfbdmjeeaaGreatDoorPrA

namespace Go.Proofs.YtmkgdgfbdmjeeaaGreatDoor
open Go.RowKit Go.Sort
set_option linter.unusedSimpArgs false
set_option linter.unusedVariables false

/-- All of a table over its cache and files, in memory. -/
structure RunAt (w : World) (B o a c fs m t root : Nat) (S : Nat → Prop) (s : Sta) (H : Option Addr) (cap : Nat) : Prop where
  own : OwnAt w B o a c fs m t root s.clock S s.p s.L H cap s.hold
  row : OwnN w B H cap s.hold
  rowNo : ∀ b, H = some ⟨b, 0, none⟩ → ¬ S b ∧ b ≠ o ∧ b ≠ c ∧ b ≠ m ∧ b ≠ t
  files : ∃ w1, w1.heap.size = B ∧ FilesAt w1 fs 8201 fileDat ∧ Below B w1 w
theorem RunAt.base {w : World} {B o a c fs m t root : Nat} {S : Nat → Prop} {s : Sta} {H : Option Addr} {cap : Nat} (h : RunAt w B o a c fs m t root S s H cap) : B ≤ w.heap.size := by
  obtain ⟨w1, h1, _, h2⟩ := h.files
  rw [← h1]
  exact h2.size
theorem RunAt.lts {w : World} {B o a c fs m t root : Nat} {S : Nat → Prop} {s : Sta} {H : Option Addr} {cap : Nat} (h : RunAt w B o a c fs m t root S s H cap) : o < w.heap.size ∧ t < w.heap.size ∧ c < w.heap.size ∧ m < w.heap.size ∧ ∀ b, S b → b < w.heap.size :=
  ⟨(Array.getElem?_eq_some_iff.1 h.own.self).1, (Array.getElem?_eq_some_iff.1 h.own.tab).1, h.own.cache.lts.1, h.own.cache.lts.2.1, h.own.cache.pool.low⟩
theorem OwnN.lt {w : World} {base : Nat} {A : Option Addr} {cap : Nat} {l : List Nat} (h : OwnN w base A cap l) : ∀ b, A = some ⟨b, 0, none⟩ → base ≤ b ∧ b < w.heap.size := fun b hb => by
  subst hb
  exact ⟨h.formS.1, h.formS.2.1⟩
/-- The blocks that are a table's, its cache's and its row's own. -/
def Runs (S : Nat → Prop) (o c m t : Nat) (H : Option Addr) : Nat → Prop := fun b => S b ∨ b = o ∨ b = c ∨ b = m ∨ b = t ∨ H = some ⟨b, 0, none⟩
theorem Mod.old {X : Nat → Prop} {w w' : World} (h : Mod (fun b => X b ∨ w.heap.size ≤ b) w w') : Mod X w w' :=
  ⟨h.os, h.tape, h.output, h.size, fun b hb hn => h.block b hb (fun e => e.elim hn (by omega))⟩
theorem RunAt.belowOf {w w' : World} {B o a c fs m t root : Nat} {S : Nat → Prop} {s : Sta} {H : Option Addr} {cap : Nat} (h : RunAt w B o a c fs m t root S s H cap) (hm : Mod (Runs S o c m t H) w w') : Below B w w' :=
  hm.below (fun b hb => by
    have hl := h.own.lows
    rcases hb with e | e | e | e | e | e
    · exact h.own.low b e
    · omega
    · omega
    · omega
    · omega
    · exact (h.row.lt b e).1) h.base
/-- The pool, the slots and boxes of the call's own are turned. -/
theorem RunAt.turn {w w0 w1 w2 : World} {B o a c fs m t root : Nat} {S S' : Nat → Prop} {s : Sta} {H : Option Addr} {cap : Nat} {clock' : Int} {p' : Pool} {L' : List Slot} (h : RunAt w B o a c fs m t root S s H cap) (hb0 : Below w.heap.size w w0) (hC : CacheAt w1 S' c a fs m clock' p' L')
    (hm : Mod (fun b => S b ∨ b = m ∨ b = c) w0 w1) (ho : Out S S' w0) (hm2 : Mod (fun b => w.heap.size ≤ b ∧ b < w0.heap.size) w1 w2) (T' : Tab) : RunAt w2 B o a c fs m t root S' ⟨p', T', L', clock', s.hold⟩ H cap ∧ Mod (Runs S o c m t H) w w2 := by
  obtain ⟨l1, l2, l3, l4, l5⟩ := h.lts
  have hB := h.base
  have hz0 := hb0.size
  have hz1 := hm.size
  have hz2 := hm2.size
  have key : ∀ b, b < w.heap.size → ¬ S b → b ≠ m → b ≠ c → w2.heap[b]? = w.heap[b]? := fun b hb h1 h2 h3 =>
    (hm2.block b (by omega) (by omega)).trans ((hm.block b (by omega) (fun e => e.elim h1 fun e => e.elim h2 h3)).trans (hb0.block b hb))
  have hbel : Below B w w2 := ⟨hm2.os.trans (hm.os.trans hb0.os), hm2.tape.trans (hm.tape.trans hb0.tape), hm2.output.trans (hm.output.trans hb0.output), by omega, fun b hb => key b (by omega) (fun e => by have := h.own.low b e; omega) (by have := h.own.lows; omega) (by have := h.own.lows; omega)⟩
  have hO := h.own
  obtain ⟨wf, hf1, hf2, hf3⟩ := h.files
  have hf4 : Below B wf w2 := hf3.trans hbel
  have hS' : ∀ b, S' b → S b ∨ w0.heap.size ≤ b := ho
  refine ⟨⟨⟨(key o l1 hO.noS.1 hO.ne.2.1 hO.ne.1).trans hO.self, hC.mod hm2 (fun b hb e => (hS' b hb).elim (fun e2 => by have := l5 b e2; omega) (fun e2 => by omega)) (fun e => by have := hO.cache.pool.pos; omega) (by omega) (by omega), (key t l2 hO.noS.2 hO.ne.2.2.2.1 hO.ne.2.2.2.2).trans hO.tab, hf2.below hf1 hf4, fun b hb => (hS' b hb).elim (hO.low b) (fun e => by omega), hO.lows, ⟨fun e => (hS' o e).elim hO.noS.1 (by omega), fun e => (hS' t e).elim hO.noS.2 (by omega)⟩, hO.ne⟩, h.row.same fun g hg => ?_, fun b hb => ?_, ⟨wf, hf1, hf2, hf4⟩⟩, ⟨hbel.os, hbel.tape, hbel.output, hbel.size, fun b hb hn => key b hb (fun e => hn (.inl e)) (fun e => hn (.inr (.inr (.inr (.inl e))))) (fun e => hn (.inr (.inr (.inl e))))⟩⟩
  · obtain ⟨n1, n2, n3, n4, n5⟩ := h.rowNo g hg
    exact key g (h.row.lt g hg).2 n1 n4 n3
  · obtain ⟨n1, n2, n3, n4, n5⟩ := h.rowNo b hb
    have := (h.row.lt b hb).2
    exact ⟨fun e => (hS' b e).elim n1 (by omega), n2, n3, n4, n5⟩

def Told.val (x : Told) : Value := .agg #[.int .i64 x.frame, .int .i64 (x.leaf.frame : Int), .int .u8 (x.leaf.prot : Int), .bool x.leaf.copy, .int .i64 x.e]
def DoesPost (w : World) (B o a c fs m t root : Nat) (S : Nat → Prop) (H : Option Addr) (op : Op) (s : Sta) (e : Ending) (w' : World) : Prop :=
  ∃ x s' S' H' cap', e = .returned x.val ∧ RunAt w' B o a c fs m t root S' s' H' cap' ∧ Mod (Runs S o c m t H) w w' ∧ DoRes op s x s'
theorem five_set {w : World} {b : Nat} {x0 x1 x2 x3 x4 y : Value} {T : TypeId} (h : w.heap[b]? = some (.cells #[x0, x1, x2, x3, x4] T (0, 0))) : (w.setCell ⟨b, 4, none⟩ y).heap[b]? = some (.cells #[x0, x1, x2, x3, y] T (0, 0)) := by
  simpa using Joins.block_setCell (i := 4) h y
theorem cntTo_le (q : Nat → Bool) (n : Nat) : cntTo q n ≤ n := by
  induction n with
  | zero => simp [cntTo]
  | succ n ih => unfold cntTo; split <;> omega
theorem Sta.Fine.cap {s : Sta} {root n k : Nat} (h : s.Fine root n k) (hk : k ≤ 100000) : ∀ f, f < s.p.n → s.p.cnt f + 1 < 1000000000000 := fun f hf => by
  have h1 := h.good.cnt f hf
  have h2 : nodeCnt s.T f ≤ 1 := by unfold nodeCnt; split <;> omega
  have h3 : leafCnt s.T f ≤ pagesN := cntTo_le _ _
  have h4 : slotN s.L f ≤ s.L.length := List.countP_le_length
  have h5 : cntH s.hold f ≤ s.hold.length := List.count_le_length
  have h6 := h.few
  unfold held at h1
  unfold pagesN at h3
  omega

theorem Mod.set {X : Nat → Prop} {w w1 : World} {b i : Nat} {v : Value} (h : Mod X w w1) (hb : X b) : Mod X w (w1.setCell ⟨b, i, none⟩ v) := h.trans (Out.refl _ _) (mod_set hb i v)
theorem MapDo.does {s : Sta} {A fr q N r : Int} {cp : Bool} {p' : Pool} {T' : Tab} {L' : List Slot} (h : MapDo s.p s.T s.L (cntH s.hold) A fr q cp r p' T' L') : DoRes ⟨0, A, fr, q, cp, N⟩ s (.err r) ⟨p', T', L', s.clock, s.hold⟩ := by
  rcases h with ⟨h1, rfl, rfl, rfl, rfl⟩ | ⟨h1, h2, rfl, rfl, rfl, rfl⟩ | ⟨h1, h2, h3⟩
  · exact .mapBad rfl h1
  · exact .mapThere rfl h1 h2
  · exact .mapGo r p' T' L' rfl h1 h2 h3
theorem DoRes.setE {o : Op} {s : Sta} {r : Int} {p' : Pool} {T' : Tab} (h : o.kind = 2) (he : (r, p', T') = setRes s.p s.T o.addr o.frame o.prot o.copy) : DoRes o s (.err r) ⟨p', T', s.L, s.clock, s.hold⟩ := by
  have := DoRes.set (s := s) h
  rw [← he] at this
  exact this
/-- A fresh told in a box. -/
def BoxAt (w1 : World) (b : Nat) : Prop :=
  w1.cell? ⟨b, 0, none⟩ = some (.int .i64 0) ∧ w1.cell? ⟨b, 1, none⟩ = some (.int .i64 0) ∧ w1.cell? ⟨b, 2, none⟩ = some (.int .u8 0) ∧ w1.cell? ⟨b, 3, none⟩ = some (.bool false) ∧ w1.cell? ⟨b, 4, none⟩ = some (.int .i64 0) ∧
  w1.frozen? ⟨b, 0, none⟩ = false ∧ w1.frozen? ⟨b, 1, none⟩ = false ∧ w1.frozen? ⟨b, 2, none⟩ = false ∧ w1.frozen? ⟨b, 3, none⟩ = false ∧ w1.frozen? ⟨b, 4, none⟩ = false ∧ b < w1.heap.size
theorem told_box {w0 w1 : World} {X : Nat → Prop} {b : Nat} {T : TypeId} (h : w0.heap[b]? = some (.cells #[.int .i64 0, .int .i64 0, .int .u8 0, .bool false, .int .i64 0] T (0, 0))) (hm : Mod X w0 w1) (hX : ¬ X b) : BoxAt w1 b := by
  have h1 := (hm.block b (Array.getElem?_eq_some_iff.1 h).1 hX).trans h
  exact ⟨one_block h1 0, one_block h1 1, one_block h1 2, one_block h1 3, one_block h1 4, one_free h1 0, one_free h1 1, one_free h1 2, one_free h1 3, one_free h1 4, (Array.getElem?_eq_some_iff.1 h1).1⟩
/-- The files' page, asked for. -/
theorem get_one (c a fs m : Nat) (page clock : Int) (w : World) (S : Nat → Prop) (p : Pool) (L : List Slot) (h : CacheAt w S c a fs m clock p L) (hF : FilesAt w fs 8201 fileDat) (hck : 0 ≤ clock ∧ clock < 1000000) :
    Calls Tryz.prog 46 #[.pointer (some ⟨c, 0, none⟩), .int .i64 1, .int .i64 page] w (GetPost w S c a fs m 1 page 0 (fileK page) (fileD page) clock p L) := by
  by_cases hbad : page < 0 ∨ 16 ≤ page
  · exact get_bad c a fs m _ 1 page 0 clock _ w S p L h hbad
  · obtain ⟨off, hoff⟩ : ∃ off : Nat, (off : Int) = page * 4096 := ⟨(page * 4096).toNat, by omega⟩
    obtain ⟨d, x, g, nb, c2, cd, hF⟩ := hF
    have hto : (page * 4096).toNat = off := by omega
    have hd : ∀ i, fileD page i < 256 := fun i => by
      unfold fileD fileK
      rw [hto]
      split
      · unfold fileDat; omega
      · omega
    have hrd : ReadIs w fs 1 (page * 4096) 0 (fileK page) (fileD page) := by
      rw [← hoff]
      refine (fread_one d x g fs nb c2 cd 8201 off fileDat w hF (by omega) (by omega)).mono ?_
      rintro e w1 ⟨A, k, cap, rfl, hk, hA, hAn, hb⟩
      have hk' : k = fileK page := by rw [hk]; unfold fileK; rw [hto]
      subst hk'
      refine ⟨some A, cap, rfl, fun h0 => ?_, fun ad e h0 => by injection e with e; subst e; exact hAn h0, hb⟩
      obtain ⟨ad, e, hc⟩ := hA h0
      refine ⟨ad, e, fun j hj => ?_⟩
      rw [hc j hj]
      unfold fileD
      rw [if_pos hj, hto]
    cases hs : L.find? (Slot.at 1 page) with
    | some sl => exact get_hit c a fs m _ 1 page 0 clock _ w S p L h (by omega) (by omega) (by decide) hrd hck sl hs
    | none => exact get_new c a fs m _ 1 page 0 clock _ w S p L h (by omega) (by omega) (by decide) hrd hd (by unfold fileK; omega) hck hs

end Go.Proofs.YtmkgdgfbdmjeeaaGreatDoor

namespace Go.Proofs.YtmkgdgfbdmjeeaaGreatDoor
open Go.RowKit Go.Sort
set_option linter.unusedSimpArgs false
set_option linter.unusedVariables false

set_option maxRecDepth 100000 in
set_option maxHeartbeats 4000000 in
theorem does_map (B o a c fs m t root n k : Nat) (A fr q N : Int) (cp : Bool) (w : World) (S : Nat → Prop) (s : Sta) (H : Option Addr) (cap : Nat) (h : RunAt w B o a c fs m t root S s H cap) (hf : s.Fine root n k) (hk : k ≤ 100000) (hop : (Op.mk 0 A fr q cp N).Ok) :
    Calls Tryz.prog 11 #[.pointer (some ⟨o, 0, none⟩), .agg #[.int .i64 0, .int .u64 A, .int .i64 fr, .int .u8 q, .bool cp, .int .i64 N]] w (DoesPost w B o a c fs m t root S H ⟨0, A, fr, q, cp, N⟩ s) := by
  have hO := h.own
  obtain ⟨l1, l2, l3, l4, l5⟩ := h.lts
  have hpos := hO.cache.pool.pos
  obtain ⟨w0, hw0⟩ : ∃ w0, w0 = ((w.alloc (.cells #[.int .i64 0, .int .u64 A, .int .i64 fr, .int .u8 q, .bool cp, .int .i64 N] 38)).alloc (.cells #[.int .i64 0, .int .i64 0, .int .u8 0, .bool false, .int .i64 0] 34)).alloc (.cells #[.int .i64 0, .int .i64 0, .int .u8 0, .bool false, .int .i64 0] 34) := ⟨_, rfl⟩
  have hB0 : Below w.heap.size w w0 := by (rw [hw0]; exact (((Below.refl _ _).alloc (Nat.le_refl _) _).alloc (by simp) _).alloc (by simp; omega) _)
  have hs0 : w0.heap.size = w.heap.size + 1 + 1 + 1 := by (rw [hw0]; simp)
  have hE0 : w0.heap[w.heap.size]? = some (.cells #[.int .i64 0, .int .u64 A, .int .i64 fr, .int .u8 q, .bool cp, .int .i64 N] 38 (0, 0)) := by (rw [hw0]; exact (Below.heap_alloc _ _ _ (by simp; omega)).trans ((Below.heap_alloc _ _ _ (by simp)).trans (heap_alloc_new w _)))
  have hR0 : w0.heap[w.heap.size + 1]? = some (.cells #[.int .i64 0, .int .i64 0, .int .u8 0, .bool false, .int .i64 0] 34 (0, 0)) := by
    (rw [hw0]
     have e : (w.alloc (.cells #[.int .i64 0, .int .u64 A, .int .i64 fr, .int .u8 q, .bool cp, .int .i64 N] 38)).heap.size = w.heap.size + 1 := by simp
     rw [← e]
     exact (Below.heap_alloc _ _ _ (by simp)).trans (heap_alloc_new _ _))
  have hX0 : w0.heap[w.heap.size + 1 + 1]? = some (.cells #[.int .i64 0, .int .i64 0, .int .u8 0, .bool false, .int .i64 0] 34 (0, 0)) := by
    (rw [hw0]
     have e : ((w.alloc (.cells #[.int .i64 0, .int .u64 A, .int .i64 fr, .int .u8 q, .bool cp, .int .i64 N] 38)).alloc (.cells #[.int .i64 0, .int .i64 0, .int .u8 0, .bool false, .int .i64 0] 34)).heap.size = w.heap.size + 1 + 1 := by simp
     rw [← e]
     exact heap_alloc_new _ _)
  have hdr : Below w.heap.size w w0.drew := hB0.drew
  have e0 : w0.cell? ⟨w.heap.size, 0, none⟩ = some (.int .i64 0) := one_block hE0 0
  have e1 : w0.cell? ⟨w.heap.size, 1, none⟩ = some (.int .u64 A) := one_block hE0 1
  have e2 : w0.cell? ⟨w.heap.size, 2, none⟩ = some (.int .i64 fr) := one_block hE0 2
  have e3 : w0.cell? ⟨w.heap.size, 3, none⟩ = some (.int .u8 q) := one_block hE0 3
  have e4 : w0.cell? ⟨w.heap.size, 4, none⟩ = some (.bool cp) := one_block hE0 4
  have e5 : w0.cell? ⟨w.heap.size, 5, none⟩ = some (.int .i64 N) := one_block hE0 5
  have o0 : w0.cell? ⟨o, 0, none⟩ = some (.pointer (some ⟨a, 0, none⟩)) := (hB0.cell (p := ⟨o, 0, none⟩) l1).trans (one_block hO.self 0)
  have o1 : w0.cell? ⟨o, 1, none⟩ = some (.pointer (some ⟨c, 0, none⟩)) := (hB0.cell (p := ⟨o, 1, none⟩) l1).trans (one_block hO.self 1)
  have o2 : w0.cell? ⟨o, 2, none⟩ = some (.pointer (some ⟨t, 0, none⟩)) := (hB0.cell (p := ⟨o, 2, none⟩) l1).trans (one_block hO.self 2)
  have o3 : w0.cell? ⟨o, 3, none⟩ = some (.slice H s.hold.length cap) := (hB0.cell (p := ⟨o, 3, none⟩) l1).trans (one_block hO.self 3)
  have HRUN := Lib.hid h
  have HOWN := Lib.hid hO
  have HW0 := Lib.hid hw0
  have HE0 := Lib.hid hE0
  have HR0 := Lib.hid hR0
  have HX0 := Lib.hid hX0
  have HB0 := Lib.hid hB0
  clear h hO hw0 hE0 hR0 hX0 hB0
  have hcall := tmap_any t c a root fs m s.clock A fr q cp w0.drew S s.p s.T s.L (cntH s.hold) 0 (HOWN.out.cache.below hdr) ((hdr.block t (by omega)).trans HOWN.out.tab) HOWN.out.noS.2 HOWN.out.ne.2.2.2.1 hf.good hf.root hop.a0 hop.p0 (hf.cap hk)
  have HC := Lib.hid hcall
  clear hcall
  go_enter Tryz.func11, Tryz.ntmps11
  go_upto_region 1 with (fail)
  go_upto_region 4 with (fail)
  rw [← HW0.out]
  go_still_tail 13, (by kernel_rfl)
  go_wp2_with fail
  refine (HC.out).mono ?_
  rintro e w1 ⟨r, p', T', L', S', rfl, hC1, hm1', ho1, hres⟩
  have hm1 : Mod (fun b => S b ∨ b = m ∨ b = c) w0 w1 := hm1'.undrew.sub fun b hb => hb.elim .inl fun e => .inr (.inl e)
  have HC1 := Lib.hid hC1
  have HM1 := Lib.hid hm1
  have HO1 := Lib.hid ho1
  have HRES := Lib.hid hres
  clear hC1 hm1' ho1 hres e0 e1 e2 e3 e4 e5 o0 o1 o2 o3
  have hbr : w.heap.size ≤ w.heap.size + 1 ∧ w.heap.size + 1 < w0.heap.size := by omega
  have hbx : w.heap.size ≤ w.heap.size + 1 + 1 ∧ w.heap.size + 1 + 1 < w0.heap.size := by omega
  have hz1 := (HM1.out).size
  have nb : ∀ b, w.heap.size ≤ b → ¬ (S b ∨ b = m ∨ b = c) := fun b hb e => by (rcases e with e | e | e; have := l5 b e; omega; omega; omega)
  have hR1 := ((HM1.out).block (w.heap.size + 1) (by omega) (nb _ (by omega))).trans HR0.out
  have hX1 := ((HM1.out).block (w.heap.size + 1 + 1) (by omega) (nb _ (by omega))).trans HX0.out
  have hlt1 : w.heap.size + 1 < w1.heap.size := by omega
  have hlt2 : w.heap.size + 1 + 1 < w1.heap.size := by omega
  have x0 : w1.cell? ⟨w.heap.size + 1 + 1, 0, none⟩ = some (.int .i64 0) := one_block hX1 0
  have x1 : w1.cell? ⟨w.heap.size + 1 + 1, 1, none⟩ = some (.int .i64 0) := one_block hX1 1
  have x2 : w1.cell? ⟨w.heap.size + 1 + 1, 2, none⟩ = some (.int .u8 0) := one_block hX1 2
  have x3 : w1.cell? ⟨w.heap.size + 1 + 1, 3, none⟩ = some (.bool false) := one_block hX1 3
  have x4 : w1.cell? ⟨w.heap.size + 1 + 1, 4, none⟩ = some (.int .i64 0) := one_block hX1 4
  have y0 : w1.cell? ⟨w.heap.size + 1, 0, none⟩ = some (.int .i64 0) := one_block hR1 0
  have y1 : w1.cell? ⟨w.heap.size + 1, 1, none⟩ = some (.int .i64 0) := one_block hR1 1
  have y2 : w1.cell? ⟨w.heap.size + 1, 2, none⟩ = some (.int .u8 0) := one_block hR1 2
  have y3 : w1.cell? ⟨w.heap.size + 1, 3, none⟩ = some (.bool false) := one_block hR1 3
  have y4 : w1.cell? ⟨w.heap.size + 1, 4, none⟩ = some (.int .i64 0) := one_block hR1 4
  have u0 := one_free hX1 0
  have u1 := one_free hX1 1
  have u2 := one_free hX1 2
  have u3 := one_free hX1 3
  have u4 := one_free hX1 4
  have z0 := one_free hR1 0
  have z1 := one_free hR1 1
  have z2 := one_free hR1 2
  have z3 := one_free hR1 3
  have z4 := one_free hR1 4
  clear hR1 hX1
  go_wp2_with fail
  skip
  exact bodyPost_ret (v := (Told.err r).val) (by simp [results, Tryz.results11, go_sem, Told.val, Told.err, noLeaf, hlt1, hlt2, x0, x1, x2, x3, x4, y0, y1, y2, y3, y4, u0, u1, u2, u3, u4, z0, z1, z2, z3, z4]) rfl ⟨Told.err r, ⟨p', T', L', s.clock, s.hold⟩, S', H, cap, rfl, (HRUN.out.turn HB0.out HC1.out HM1.out HO1.out (by (repeat (refine Mod.set ?_ (by first | exact hbr | exact hbx))); exact Mod.refl _ _) T').1, (HRUN.out.turn HB0.out HC1.out HM1.out HO1.out (by (repeat (refine Mod.set ?_ (by first | exact hbr | exact hbx))); exact Mod.refl _ _) T').2, HRES.out.does⟩

end Go.Proofs.YtmkgdgfbdmjeeaaGreatDoor

namespace Go.Proofs.YtmkgdgfbdmjeeaaGreatDoor
open Go.RowKit Go.Sort
set_option linter.unusedSimpArgs false
set_option linter.unusedVariables false

set_option maxRecDepth 100000 in
set_option maxHeartbeats 4000000 in
theorem does_unmap (B o a c fs m t root n k : Nat) (A fr q N : Int) (cp : Bool) (w : World) (S : Nat → Prop) (s : Sta) (H : Option Addr) (cap : Nat) (h : RunAt w B o a c fs m t root S s H cap) (hf : s.Fine root n k) (hk : k ≤ 100000) (hop : (Op.mk 1 A fr q cp N).Ok) :
    Calls Tryz.prog 11 #[.pointer (some ⟨o, 0, none⟩), .agg #[.int .i64 1, .int .u64 A, .int .i64 fr, .int .u8 q, .bool cp, .int .i64 N]] w (DoesPost w B o a c fs m t root S H ⟨1, A, fr, q, cp, N⟩ s) := by
  have hO := h.own
  obtain ⟨l1, l2, l3, l4, l5⟩ := h.lts
  have hpos := hO.cache.pool.pos
  obtain ⟨w0, hw0⟩ : ∃ w0, w0 = ((w.alloc (.cells #[.int .i64 1, .int .u64 A, .int .i64 fr, .int .u8 q, .bool cp, .int .i64 N] 38)).alloc (.cells #[.int .i64 0, .int .i64 0, .int .u8 0, .bool false, .int .i64 0] 34)).alloc (.cells #[.int .i64 0, .int .i64 0, .int .u8 0, .bool false, .int .i64 0] 34) := ⟨_, rfl⟩
  have hB0 : Below w.heap.size w w0 := by (rw [hw0]; exact (((Below.refl _ _).alloc (Nat.le_refl _) _).alloc (by simp) _).alloc (by simp; omega) _)
  have hs0 : w0.heap.size = w.heap.size + 1 + 1 + 1 := by (rw [hw0]; simp)
  have hE0 : w0.heap[w.heap.size]? = some (.cells #[.int .i64 1, .int .u64 A, .int .i64 fr, .int .u8 q, .bool cp, .int .i64 N] 38 (0, 0)) := by (rw [hw0]; exact (Below.heap_alloc _ _ _ (by simp; omega)).trans ((Below.heap_alloc _ _ _ (by simp)).trans (heap_alloc_new w _)))
  have hR0 : w0.heap[w.heap.size + 1]? = some (.cells #[.int .i64 0, .int .i64 0, .int .u8 0, .bool false, .int .i64 0] 34 (0, 0)) := by
    (rw [hw0]
     have e : (w.alloc (.cells #[.int .i64 1, .int .u64 A, .int .i64 fr, .int .u8 q, .bool cp, .int .i64 N] 38)).heap.size = w.heap.size + 1 := by simp
     rw [← e]
     exact (Below.heap_alloc _ _ _ (by simp)).trans (heap_alloc_new _ _))
  have hX0 : w0.heap[w.heap.size + 1 + 1]? = some (.cells #[.int .i64 0, .int .i64 0, .int .u8 0, .bool false, .int .i64 0] 34 (0, 0)) := by
    (rw [hw0]
     have e : ((w.alloc (.cells #[.int .i64 1, .int .u64 A, .int .i64 fr, .int .u8 q, .bool cp, .int .i64 N] 38)).alloc (.cells #[.int .i64 0, .int .i64 0, .int .u8 0, .bool false, .int .i64 0] 34)).heap.size = w.heap.size + 1 + 1 := by simp
     rw [← e]
     exact heap_alloc_new _ _)
  have hdr : Below w.heap.size w w0.drew := hB0.drew
  have e0 : w0.cell? ⟨w.heap.size, 0, none⟩ = some (.int .i64 1) := one_block hE0 0
  have e1 : w0.cell? ⟨w.heap.size, 1, none⟩ = some (.int .u64 A) := one_block hE0 1
  have e2 : w0.cell? ⟨w.heap.size, 2, none⟩ = some (.int .i64 fr) := one_block hE0 2
  have e3 : w0.cell? ⟨w.heap.size, 3, none⟩ = some (.int .u8 q) := one_block hE0 3
  have e4 : w0.cell? ⟨w.heap.size, 4, none⟩ = some (.bool cp) := one_block hE0 4
  have e5 : w0.cell? ⟨w.heap.size, 5, none⟩ = some (.int .i64 N) := one_block hE0 5
  have o0 : w0.cell? ⟨o, 0, none⟩ = some (.pointer (some ⟨a, 0, none⟩)) := (hB0.cell (p := ⟨o, 0, none⟩) l1).trans (one_block hO.self 0)
  have o1 : w0.cell? ⟨o, 1, none⟩ = some (.pointer (some ⟨c, 0, none⟩)) := (hB0.cell (p := ⟨o, 1, none⟩) l1).trans (one_block hO.self 1)
  have o2 : w0.cell? ⟨o, 2, none⟩ = some (.pointer (some ⟨t, 0, none⟩)) := (hB0.cell (p := ⟨o, 2, none⟩) l1).trans (one_block hO.self 2)
  have o3 : w0.cell? ⟨o, 3, none⟩ = some (.slice H s.hold.length cap) := (hB0.cell (p := ⟨o, 3, none⟩) l1).trans (one_block hO.self 3)
  have HRUN := Lib.hid h
  have HOWN := Lib.hid hO
  have HW0 := Lib.hid hw0
  have HE0 := Lib.hid hE0
  have HR0 := Lib.hid hR0
  have HX0 := Lib.hid hX0
  have HB0 := Lib.hid hB0
  clear h hO hw0 hE0 hR0 hX0 hB0
  have hcall := tunmap_any t c a root A w0.drew S s.p s.T _ 0 (HOWN.out.cache.below hdr).pool ((hdr.block t (by omega)).trans HOWN.out.tab) HOWN.out.noS.2 hf.good hf.root hop.a0
  have HC := Lib.hid hcall
  clear hcall
  go_enter Tryz.func11, Tryz.ntmps11
  go_upto_region 1 with (fail)
  go_upto_region 6 with (fail)
  rw [← HW0.out]
  go_still_tail 6, (by kernel_rfl)
  go_wp2_with fail
  refine (HC.out).mono ?_
  rintro e w1 ⟨r, p', T', rfl, hP1, hm1', hres⟩
  obtain ⟨S', hS'⟩ : ∃ S', S' = S := ⟨_, rfl⟩
  have hC1 : CacheAt w1 S' c a fs m s.clock p' s.L := by (rw [hS']; exact (HOWN.out.cache.below hdr).turn hm1' hP1 (Out.refl _ _))
  have hm1 : Mod (fun b => S b ∨ b = m ∨ b = c) w0 w1 := hm1'.undrew.sub fun b hb => .inl hb
  have ho1 : Out S S' w0 := by (rw [hS']; exact Out.refl _ _)
  have HRES := Lib.hid hres
  clear hP1 hm1' hres hS'
  have HC1 := Lib.hid hC1
  have HM1 := Lib.hid hm1
  have HO1 := Lib.hid ho1
  clear hC1 hm1 ho1 e0 e1 e2 e3 e4 e5 o0 o1 o2 o3
  have hbr : w.heap.size ≤ w.heap.size + 1 ∧ w.heap.size + 1 < w0.heap.size := by omega
  have hbx : w.heap.size ≤ w.heap.size + 1 + 1 ∧ w.heap.size + 1 + 1 < w0.heap.size := by omega
  have hz1 := (HM1.out).size
  have nb : ∀ b, w.heap.size ≤ b → ¬ (S b ∨ b = m ∨ b = c) := fun b hb e => by (rcases e with e | e | e; have := l5 b e; omega; omega; omega)
  have hR1 := ((HM1.out).block (w.heap.size + 1) (by omega) (nb _ (by omega))).trans HR0.out
  have hX1 := ((HM1.out).block (w.heap.size + 1 + 1) (by omega) (nb _ (by omega))).trans HX0.out
  have hlt1 : w.heap.size + 1 < w1.heap.size := by omega
  have hlt2 : w.heap.size + 1 + 1 < w1.heap.size := by omega
  have x0 : w1.cell? ⟨w.heap.size + 1 + 1, 0, none⟩ = some (.int .i64 0) := one_block hX1 0
  have x1 : w1.cell? ⟨w.heap.size + 1 + 1, 1, none⟩ = some (.int .i64 0) := one_block hX1 1
  have x2 : w1.cell? ⟨w.heap.size + 1 + 1, 2, none⟩ = some (.int .u8 0) := one_block hX1 2
  have x3 : w1.cell? ⟨w.heap.size + 1 + 1, 3, none⟩ = some (.bool false) := one_block hX1 3
  have x4 : w1.cell? ⟨w.heap.size + 1 + 1, 4, none⟩ = some (.int .i64 0) := one_block hX1 4
  have y0 : w1.cell? ⟨w.heap.size + 1, 0, none⟩ = some (.int .i64 0) := one_block hR1 0
  have y1 : w1.cell? ⟨w.heap.size + 1, 1, none⟩ = some (.int .i64 0) := one_block hR1 1
  have y2 : w1.cell? ⟨w.heap.size + 1, 2, none⟩ = some (.int .u8 0) := one_block hR1 2
  have y3 : w1.cell? ⟨w.heap.size + 1, 3, none⟩ = some (.bool false) := one_block hR1 3
  have y4 : w1.cell? ⟨w.heap.size + 1, 4, none⟩ = some (.int .i64 0) := one_block hR1 4
  have u0 := one_free hX1 0
  have u1 := one_free hX1 1
  have u2 := one_free hX1 2
  have u3 := one_free hX1 3
  have u4 := one_free hX1 4
  have z0 := one_free hR1 0
  have z1 := one_free hR1 1
  have z2 := one_free hR1 2
  have z3 := one_free hR1 3
  have z4 := one_free hR1 4
  clear hR1 hX1
  go_wp2_with fail
  skip
  exact bodyPost_ret (v := (Told.err r).val) (by simp [results, Tryz.results11, go_sem, Told.val, Told.err, noLeaf, hlt1, hlt2, x0, x1, x2, x3, x4, y0, y1, y2, y3, y4, u0, u1, u2, u3, u4, z0, z1, z2, z3, z4]) rfl ⟨Told.err r, ⟨p', T', s.L, s.clock, s.hold⟩, S', H, cap, rfl, (HRUN.out.turn HB0.out HC1.out HM1.out HO1.out (by (repeat (refine Mod.set ?_ (by first | exact hbr | exact hbx))); exact Mod.refl _ _) T').1, (HRUN.out.turn HB0.out HC1.out HM1.out HO1.out (by (repeat (refine Mod.set ?_ (by first | exact hbr | exact hbx))); exact Mod.refl _ _) T').2, .unmap r p' T' rfl HRES.out⟩

end Go.Proofs.YtmkgdgfbdmjeeaaGreatDoor

namespace Go.Proofs.YtmkgdgfbdmjeeaaGreatDoor
open Go.RowKit Go.Sort
set_option linter.unusedSimpArgs false
set_option linter.unusedVariables false

set_option maxRecDepth 100000 in
set_option maxHeartbeats 4000000 in
theorem does_set (B o a c fs m t root n k : Nat) (A fr q N : Int) (cp : Bool) (w : World) (S : Nat → Prop) (s : Sta) (H : Option Addr) (cap : Nat) (h : RunAt w B o a c fs m t root S s H cap) (hf : s.Fine root n k) (hk : k ≤ 100000) (hop : (Op.mk 2 A fr q cp N).Ok) :
    Calls Tryz.prog 11 #[.pointer (some ⟨o, 0, none⟩), .agg #[.int .i64 2, .int .u64 A, .int .i64 fr, .int .u8 q, .bool cp, .int .i64 N]] w (DoesPost w B o a c fs m t root S H ⟨2, A, fr, q, cp, N⟩ s) := by
  have hO := h.own
  obtain ⟨l1, l2, l3, l4, l5⟩ := h.lts
  have hpos := hO.cache.pool.pos
  obtain ⟨w0, hw0⟩ : ∃ w0, w0 = ((w.alloc (.cells #[.int .i64 2, .int .u64 A, .int .i64 fr, .int .u8 q, .bool cp, .int .i64 N] 38)).alloc (.cells #[.int .i64 0, .int .i64 0, .int .u8 0, .bool false, .int .i64 0] 34)).alloc (.cells #[.int .i64 0, .int .i64 0, .int .u8 0, .bool false, .int .i64 0] 34) := ⟨_, rfl⟩
  have hB0 : Below w.heap.size w w0 := by (rw [hw0]; exact (((Below.refl _ _).alloc (Nat.le_refl _) _).alloc (by simp) _).alloc (by simp; omega) _)
  have hs0 : w0.heap.size = w.heap.size + 1 + 1 + 1 := by (rw [hw0]; simp)
  have hE0 : w0.heap[w.heap.size]? = some (.cells #[.int .i64 2, .int .u64 A, .int .i64 fr, .int .u8 q, .bool cp, .int .i64 N] 38 (0, 0)) := by (rw [hw0]; exact (Below.heap_alloc _ _ _ (by simp; omega)).trans ((Below.heap_alloc _ _ _ (by simp)).trans (heap_alloc_new w _)))
  have hR0 : w0.heap[w.heap.size + 1]? = some (.cells #[.int .i64 0, .int .i64 0, .int .u8 0, .bool false, .int .i64 0] 34 (0, 0)) := by
    (rw [hw0]
     have e : (w.alloc (.cells #[.int .i64 2, .int .u64 A, .int .i64 fr, .int .u8 q, .bool cp, .int .i64 N] 38)).heap.size = w.heap.size + 1 := by simp
     rw [← e]
     exact (Below.heap_alloc _ _ _ (by simp)).trans (heap_alloc_new _ _))
  have hX0 : w0.heap[w.heap.size + 1 + 1]? = some (.cells #[.int .i64 0, .int .i64 0, .int .u8 0, .bool false, .int .i64 0] 34 (0, 0)) := by
    (rw [hw0]
     have e : ((w.alloc (.cells #[.int .i64 2, .int .u64 A, .int .i64 fr, .int .u8 q, .bool cp, .int .i64 N] 38)).alloc (.cells #[.int .i64 0, .int .i64 0, .int .u8 0, .bool false, .int .i64 0] 34)).heap.size = w.heap.size + 1 + 1 := by simp
     rw [← e]
     exact heap_alloc_new _ _)
  have hdr : Below w.heap.size w w0.drew := hB0.drew
  have e0 : w0.cell? ⟨w.heap.size, 0, none⟩ = some (.int .i64 2) := one_block hE0 0
  have e1 : w0.cell? ⟨w.heap.size, 1, none⟩ = some (.int .u64 A) := one_block hE0 1
  have e2 : w0.cell? ⟨w.heap.size, 2, none⟩ = some (.int .i64 fr) := one_block hE0 2
  have e3 : w0.cell? ⟨w.heap.size, 3, none⟩ = some (.int .u8 q) := one_block hE0 3
  have e4 : w0.cell? ⟨w.heap.size, 4, none⟩ = some (.bool cp) := one_block hE0 4
  have e5 : w0.cell? ⟨w.heap.size, 5, none⟩ = some (.int .i64 N) := one_block hE0 5
  have o0 : w0.cell? ⟨o, 0, none⟩ = some (.pointer (some ⟨a, 0, none⟩)) := (hB0.cell (p := ⟨o, 0, none⟩) l1).trans (one_block hO.self 0)
  have o1 : w0.cell? ⟨o, 1, none⟩ = some (.pointer (some ⟨c, 0, none⟩)) := (hB0.cell (p := ⟨o, 1, none⟩) l1).trans (one_block hO.self 1)
  have o2 : w0.cell? ⟨o, 2, none⟩ = some (.pointer (some ⟨t, 0, none⟩)) := (hB0.cell (p := ⟨o, 2, none⟩) l1).trans (one_block hO.self 2)
  have o3 : w0.cell? ⟨o, 3, none⟩ = some (.slice H s.hold.length cap) := (hB0.cell (p := ⟨o, 3, none⟩) l1).trans (one_block hO.self 3)
  have HRUN := Lib.hid h
  have HOWN := Lib.hid hO
  have HW0 := Lib.hid hw0
  have HE0 := Lib.hid hE0
  have HR0 := Lib.hid hR0
  have HX0 := Lib.hid hX0
  have HB0 := Lib.hid hB0
  clear h hO hw0 hE0 hR0 hX0 hB0
  have hcall := tset_any t c a root 0 A fr q cp w0.drew S s.p s.T _ (HOWN.out.cache.below hdr).pool ((hdr.block t (by omega)).trans HOWN.out.tab) HOWN.out.noS.2 hf.good hf.root hop.a0 hop.p0 (hf.cap hk)
  have HC := Lib.hid hcall
  clear hcall
  go_enter Tryz.func11, Tryz.ntmps11
  go_upto_region 1 with (fail)
  go_upto_region 8 with (fail)
  rw [← HW0.out]
  go_still_tail 13, (by kernel_rfl)
  go_wp2_with fail
  refine (HC.out).mono ?_
  rintro e w1 ⟨he, hP1, hm1'⟩
  obtain ⟨⟨r, p', T'⟩, hr⟩ : ∃ x : Int × Pool × Tab, x = setRes s.p s.T A fr q cp := ⟨_, rfl⟩
  rw [← hr] at he hP1
  simp only at he hP1
  subst he
  obtain ⟨S', hS'⟩ : ∃ S', S' = S := ⟨_, rfl⟩
  have hC1 : CacheAt w1 S' c a fs m s.clock p' s.L := by (rw [hS']; exact (HOWN.out.cache.below hdr).turn hm1' hP1 (Out.refl _ _))
  have hm1 : Mod (fun b => S b ∨ b = m ∨ b = c) w0 w1 := hm1'.undrew.sub fun b hb => .inl hb
  have ho1 : Out S S' w0 := by (rw [hS']; exact Out.refl _ _)
  have HRS := Lib.hid hr
  clear hP1 hm1' hS' hr
  have HC1 := Lib.hid hC1
  have HM1 := Lib.hid hm1
  have HO1 := Lib.hid ho1
  clear hC1 hm1 ho1 e0 e1 e2 e3 e4 e5 o0 o1 o2 o3
  have hbr : w.heap.size ≤ w.heap.size + 1 ∧ w.heap.size + 1 < w0.heap.size := by omega
  have hbx : w.heap.size ≤ w.heap.size + 1 + 1 ∧ w.heap.size + 1 + 1 < w0.heap.size := by omega
  have hz1 := (HM1.out).size
  have nb : ∀ b, w.heap.size ≤ b → ¬ (S b ∨ b = m ∨ b = c) := fun b hb e => by (rcases e with e | e | e; have := l5 b e; omega; omega; omega)
  have hR1 := ((HM1.out).block (w.heap.size + 1) (by omega) (nb _ (by omega))).trans HR0.out
  have hX1 := ((HM1.out).block (w.heap.size + 1 + 1) (by omega) (nb _ (by omega))).trans HX0.out
  have hlt1 : w.heap.size + 1 < w1.heap.size := by omega
  have hlt2 : w.heap.size + 1 + 1 < w1.heap.size := by omega
  have x0 : w1.cell? ⟨w.heap.size + 1 + 1, 0, none⟩ = some (.int .i64 0) := one_block hX1 0
  have x1 : w1.cell? ⟨w.heap.size + 1 + 1, 1, none⟩ = some (.int .i64 0) := one_block hX1 1
  have x2 : w1.cell? ⟨w.heap.size + 1 + 1, 2, none⟩ = some (.int .u8 0) := one_block hX1 2
  have x3 : w1.cell? ⟨w.heap.size + 1 + 1, 3, none⟩ = some (.bool false) := one_block hX1 3
  have x4 : w1.cell? ⟨w.heap.size + 1 + 1, 4, none⟩ = some (.int .i64 0) := one_block hX1 4
  have y0 : w1.cell? ⟨w.heap.size + 1, 0, none⟩ = some (.int .i64 0) := one_block hR1 0
  have y1 : w1.cell? ⟨w.heap.size + 1, 1, none⟩ = some (.int .i64 0) := one_block hR1 1
  have y2 : w1.cell? ⟨w.heap.size + 1, 2, none⟩ = some (.int .u8 0) := one_block hR1 2
  have y3 : w1.cell? ⟨w.heap.size + 1, 3, none⟩ = some (.bool false) := one_block hR1 3
  have y4 : w1.cell? ⟨w.heap.size + 1, 4, none⟩ = some (.int .i64 0) := one_block hR1 4
  have u0 := one_free hX1 0
  have u1 := one_free hX1 1
  have u2 := one_free hX1 2
  have u3 := one_free hX1 3
  have u4 := one_free hX1 4
  have z0 := one_free hR1 0
  have z1 := one_free hR1 1
  have z2 := one_free hR1 2
  have z3 := one_free hR1 3
  have z4 := one_free hR1 4
  clear hR1 hX1
  go_wp2_with fail
  skip
  exact bodyPost_ret (v := (Told.err r).val) (by simp [results, Tryz.results11, go_sem, Told.val, Told.err, noLeaf, hlt1, hlt2, x0, x1, x2, x3, x4, y0, y1, y2, y3, y4, u0, u1, u2, u3, u4, z0, z1, z2, z3, z4]) rfl ⟨Told.err r, ⟨p', T', s.L, s.clock, s.hold⟩, S', H, cap, rfl, (HRUN.out.turn HB0.out HC1.out HM1.out HO1.out (by (repeat (refine Mod.set ?_ (by first | exact hbr | exact hbx))); exact Mod.refl _ _) T').1, (HRUN.out.turn HB0.out HC1.out HM1.out HO1.out (by (repeat (refine Mod.set ?_ (by first | exact hbr | exact hbx))); exact Mod.refl _ _) T').2, DoRes.setE rfl HRS.out⟩

end Go.Proofs.YtmkgdgfbdmjeeaaGreatDoor

namespace Go.Proofs.YtmkgdgfbdmjeeaaGreatDoor
open Go.RowKit Go.Sort
set_option linter.unusedSimpArgs false
set_option linter.unusedVariables false

set_option maxRecDepth 100000 in
set_option maxHeartbeats 4000000 in
theorem does_get (B o a c fs m t root n k : Nat) (A fr q N : Int) (cp : Bool) (w : World) (S : Nat → Prop) (s : Sta) (H : Option Addr) (cap : Nat) (h : RunAt w B o a c fs m t root S s H cap) (hf : s.Fine root n k) (hk : k ≤ 100000) (hop : (Op.mk 5 A fr q cp N).Ok) :
    Calls Tryz.prog 11 #[.pointer (some ⟨o, 0, none⟩), .agg #[.int .i64 5, .int .u64 A, .int .i64 fr, .int .u8 q, .bool cp, .int .i64 N]] w (DoesPost w B o a c fs m t root S H ⟨5, A, fr, q, cp, N⟩ s) := by
  have hO := h.own
  obtain ⟨l1, l2, l3, l4, l5⟩ := h.lts
  have hpos := hO.cache.pool.pos
  obtain ⟨w0, hw0⟩ : ∃ w0, w0 = ((w.alloc (.cells #[.int .i64 5, .int .u64 A, .int .i64 fr, .int .u8 q, .bool cp, .int .i64 N] 38)).alloc (.cells #[.int .i64 0, .int .i64 0, .int .u8 0, .bool false, .int .i64 0] 34)).alloc (.cells #[.int .i64 0, .int .i64 0, .int .u8 0, .bool false, .int .i64 0] 34) := ⟨_, rfl⟩
  have hB0 : Below w.heap.size w w0 := by (rw [hw0]; exact (((Below.refl _ _).alloc (Nat.le_refl _) _).alloc (by simp) _).alloc (by simp; omega) _)
  have hs0 : w0.heap.size = w.heap.size + 1 + 1 + 1 := by (rw [hw0]; simp)
  have hE0 : w0.heap[w.heap.size]? = some (.cells #[.int .i64 5, .int .u64 A, .int .i64 fr, .int .u8 q, .bool cp, .int .i64 N] 38 (0, 0)) := by (rw [hw0]; exact (Below.heap_alloc _ _ _ (by simp; omega)).trans ((Below.heap_alloc _ _ _ (by simp)).trans (heap_alloc_new w _)))
  have hR0 : w0.heap[w.heap.size + 1]? = some (.cells #[.int .i64 0, .int .i64 0, .int .u8 0, .bool false, .int .i64 0] 34 (0, 0)) := by
    (rw [hw0]
     have e : (w.alloc (.cells #[.int .i64 5, .int .u64 A, .int .i64 fr, .int .u8 q, .bool cp, .int .i64 N] 38)).heap.size = w.heap.size + 1 := by simp
     rw [← e]
     exact (Below.heap_alloc _ _ _ (by simp)).trans (heap_alloc_new _ _))
  have hX0 : w0.heap[w.heap.size + 1 + 1]? = some (.cells #[.int .i64 0, .int .i64 0, .int .u8 0, .bool false, .int .i64 0] 34 (0, 0)) := by
    (rw [hw0]
     have e : ((w.alloc (.cells #[.int .i64 5, .int .u64 A, .int .i64 fr, .int .u8 q, .bool cp, .int .i64 N] 38)).alloc (.cells #[.int .i64 0, .int .i64 0, .int .u8 0, .bool false, .int .i64 0] 34)).heap.size = w.heap.size + 1 + 1 := by simp
     rw [← e]
     exact heap_alloc_new _ _)
  have hdr : Below w.heap.size w w0.drew := hB0.drew
  have e0 : w0.cell? ⟨w.heap.size, 0, none⟩ = some (.int .i64 5) := one_block hE0 0
  have e1 : w0.cell? ⟨w.heap.size, 1, none⟩ = some (.int .u64 A) := one_block hE0 1
  have e2 : w0.cell? ⟨w.heap.size, 2, none⟩ = some (.int .i64 fr) := one_block hE0 2
  have e3 : w0.cell? ⟨w.heap.size, 3, none⟩ = some (.int .u8 q) := one_block hE0 3
  have e4 : w0.cell? ⟨w.heap.size, 4, none⟩ = some (.bool cp) := one_block hE0 4
  have e5 : w0.cell? ⟨w.heap.size, 5, none⟩ = some (.int .i64 N) := one_block hE0 5
  have o0 : w0.cell? ⟨o, 0, none⟩ = some (.pointer (some ⟨a, 0, none⟩)) := (hB0.cell (p := ⟨o, 0, none⟩) l1).trans (one_block hO.self 0)
  have o1 : w0.cell? ⟨o, 1, none⟩ = some (.pointer (some ⟨c, 0, none⟩)) := (hB0.cell (p := ⟨o, 1, none⟩) l1).trans (one_block hO.self 1)
  have o2 : w0.cell? ⟨o, 2, none⟩ = some (.pointer (some ⟨t, 0, none⟩)) := (hB0.cell (p := ⟨o, 2, none⟩) l1).trans (one_block hO.self 2)
  have o3 : w0.cell? ⟨o, 3, none⟩ = some (.slice H s.hold.length cap) := (hB0.cell (p := ⟨o, 3, none⟩) l1).trans (one_block hO.self 3)
  have HRUN := Lib.hid h
  have HOWN := Lib.hid hO
  have HW0 := Lib.hid hw0
  have HE0 := Lib.hid hE0
  have HR0 := Lib.hid hR0
  have HX0 := Lib.hid hX0
  have HB0 := Lib.hid hB0
  clear h hO hw0 hE0 hR0 hX0 hB0
  have hcall := get_one c a fs m N s.clock w0.drew S s.p s.L (HOWN.out.cache.below hdr) (by obtain ⟨wf, hf1, hf2, hf3⟩ := HRUN.out.files; exact hf2.below hf1 (hf3.trans (hdr.mono HRUN.out.base))) (by have := hf.few; omega)
  have nb : ∀ b, w.heap.size ≤ b → ¬ (S b ∨ b = m ∨ b = c) := fun b hb e => by (rcases e with e | e | e; have := l5 b e; omega; omega; omega)
  have hbr : w.heap.size ≤ w.heap.size + 1 ∧ w.heap.size + 1 < w0.heap.size := by omega
  have hbx : w.heap.size ≤ w.heap.size + 1 + 1 ∧ w.heap.size + 1 + 1 < w0.heap.size := by omega
  have hcall2 : Calls Tryz.prog 46 #[.pointer (some ⟨c, 0, none⟩), .int .i64 1, .int .i64 N] w0.drew fun e w1 => ∃ r f p' L' clock' S', e = .returned (.tuple #[.int .i64 (f : Nat), .int .i64 r]) ∧ Hid (CacheAt w1 S' c a fs m clock' p' L') ∧ Hid (Mod (fun b => S b ∨ b = m ∨ b = c) w0 w1) ∧ Hid (Out S S' w0) ∧ Hid (GetRes 1 N 0 (fileK N) (fileD N) s.p s.L s.clock r f p' L' clock') ∧ BoxAt w1 (w.heap.size + 1 + 1) ∧ BoxAt w1 (w.heap.size + 1) := by
    refine hcall.mono ?_
    rintro e w1 ⟨r, f, p', L', clock', S', rfl, hC1, hm1', ho1, hres⟩
    have hm1 : Mod (fun b => S b ∨ b = m ∨ b = c) w0 w1 := hm1'.undrew
    exact ⟨r, f, p', L', clock', S', rfl, Lib.hid hC1, Lib.hid hm1, Lib.hid ho1, Lib.hid hres, told_box HX0.out hm1 (nb _ (by omega)), told_box HR0.out hm1 (nb _ (by omega))⟩
  have HC := Lib.hid hcall2
  clear hcall hcall2
  go_enter Tryz.func11, Tryz.ntmps11
  go_upto_region 1 with (fail)
  go_upto_region 16 with (fail)
  rw [← HW0.out]
  go_region_with ((first
    | (go_at_call 46; refine (HC.out).mono ?_; rintro e w1 ⟨r, f, p', L', clock', S', rfl, HC1, HM1, HO1, HRES, ⟨x0, x1, x2, x3, x4, u0, u1, u2, u3, u4, hlt2⟩, ⟨y0, y1, y2, y3, y4, z0, z1, z2, z3, z4, hlt1⟩⟩)))
  all_goals (go_wp2_with fail; exact bodyPost_ret (v := ((Told.mk (f : Int) noLeaf r)).val) (by simp [results, Tryz.results11, go_sem, Told.val, Told.err, noLeaf, hlt1, hlt2, x0, x1, x2, x3, x4, y0, y1, y2, y3, y4, u0, u1, u2, u3, u4, z0, z1, z2, z3, z4]) rfl ⟨(Told.mk (f : Int) noLeaf r), ⟨p', s.T, L', clock', s.hold⟩, S', H, cap, rfl, (HRUN.out.turn HB0.out HC1.out HM1.out HO1.out (by (repeat (refine Mod.set ?_ (by first | exact hbr | exact hbx))); exact Mod.refl _ _) s.T).1, (HRUN.out.turn HB0.out HC1.out HM1.out HO1.out (by (repeat (refine Mod.set ?_ (by first | exact hbr | exact hbx))); exact Mod.refl _ _) s.T).2, .get r f p' L' clock' rfl HRES.out⟩)

end Go.Proofs.YtmkgdgfbdmjeeaaGreatDoor

namespace Go.Proofs.YtmkgdgfbdmjeeaaGreatDoor
open Go.RowKit Go.Sort
set_option linter.unusedSimpArgs false
set_option linter.unusedVariables false

set_option maxRecDepth 100000 in
set_option maxHeartbeats 4000000 in
theorem does_find (B o a c fs m t root n k : Nat) (A fr q N : Int) (cp : Bool) (w : World) (S : Nat → Prop) (s : Sta) (H : Option Addr) (cap : Nat) (h : RunAt w B o a c fs m t root S s H cap) (hf : s.Fine root n k) (hk : k ≤ 100000) (hop : (Op.mk 3 A fr q cp N).Ok) :
    Calls Tryz.prog 11 #[.pointer (some ⟨o, 0, none⟩), .agg #[.int .i64 3, .int .u64 A, .int .i64 fr, .int .u8 q, .bool cp, .int .i64 N]] w (DoesPost w B o a c fs m t root S H ⟨3, A, fr, q, cp, N⟩ s) := by
  have hO := h.own
  obtain ⟨l1, l2, l3, l4, l5⟩ := h.lts
  have hpos := hO.cache.pool.pos
  obtain ⟨w0, hw0⟩ : ∃ w0, w0 = ((w.alloc (.cells #[.int .i64 3, .int .u64 A, .int .i64 fr, .int .u8 q, .bool cp, .int .i64 N] 38)).alloc (.cells #[.int .i64 0, .int .i64 0, .int .u8 0, .bool false, .int .i64 0] 34)).alloc (.cells #[.int .i64 0, .int .i64 0, .int .u8 0, .bool false, .int .i64 0] 34) := ⟨_, rfl⟩
  have hB0 : Below w.heap.size w w0 := by (rw [hw0]; exact (((Below.refl _ _).alloc (Nat.le_refl _) _).alloc (by simp) _).alloc (by simp; omega) _)
  have hs0 : w0.heap.size = w.heap.size + 1 + 1 + 1 := by (rw [hw0]; simp)
  have hE0 : w0.heap[w.heap.size]? = some (.cells #[.int .i64 3, .int .u64 A, .int .i64 fr, .int .u8 q, .bool cp, .int .i64 N] 38 (0, 0)) := by (rw [hw0]; exact (Below.heap_alloc _ _ _ (by simp; omega)).trans ((Below.heap_alloc _ _ _ (by simp)).trans (heap_alloc_new w _)))
  have hR0 : w0.heap[w.heap.size + 1]? = some (.cells #[.int .i64 0, .int .i64 0, .int .u8 0, .bool false, .int .i64 0] 34 (0, 0)) := by
    (rw [hw0]
     have e : (w.alloc (.cells #[.int .i64 3, .int .u64 A, .int .i64 fr, .int .u8 q, .bool cp, .int .i64 N] 38)).heap.size = w.heap.size + 1 := by simp
     rw [← e]
     exact (Below.heap_alloc _ _ _ (by simp)).trans (heap_alloc_new _ _))
  have hX0 : w0.heap[w.heap.size + 1 + 1]? = some (.cells #[.int .i64 0, .int .i64 0, .int .u8 0, .bool false, .int .i64 0] 34 (0, 0)) := by
    (rw [hw0]
     have e : ((w.alloc (.cells #[.int .i64 3, .int .u64 A, .int .i64 fr, .int .u8 q, .bool cp, .int .i64 N] 38)).alloc (.cells #[.int .i64 0, .int .i64 0, .int .u8 0, .bool false, .int .i64 0] 34)).heap.size = w.heap.size + 1 + 1 := by simp
     rw [← e]
     exact heap_alloc_new _ _)
  have hdr : Below w.heap.size w w0.drew := hB0.drew
  have e0 : w0.cell? ⟨w.heap.size, 0, none⟩ = some (.int .i64 3) := one_block hE0 0
  have e1 : w0.cell? ⟨w.heap.size, 1, none⟩ = some (.int .u64 A) := one_block hE0 1
  have e2 : w0.cell? ⟨w.heap.size, 2, none⟩ = some (.int .i64 fr) := one_block hE0 2
  have e3 : w0.cell? ⟨w.heap.size, 3, none⟩ = some (.int .u8 q) := one_block hE0 3
  have e4 : w0.cell? ⟨w.heap.size, 4, none⟩ = some (.bool cp) := one_block hE0 4
  have e5 : w0.cell? ⟨w.heap.size, 5, none⟩ = some (.int .i64 N) := one_block hE0 5
  have o0 : w0.cell? ⟨o, 0, none⟩ = some (.pointer (some ⟨a, 0, none⟩)) := (hB0.cell (p := ⟨o, 0, none⟩) l1).trans (one_block hO.self 0)
  have o1 : w0.cell? ⟨o, 1, none⟩ = some (.pointer (some ⟨c, 0, none⟩)) := (hB0.cell (p := ⟨o, 1, none⟩) l1).trans (one_block hO.self 1)
  have o2 : w0.cell? ⟨o, 2, none⟩ = some (.pointer (some ⟨t, 0, none⟩)) := (hB0.cell (p := ⟨o, 2, none⟩) l1).trans (one_block hO.self 2)
  have o3 : w0.cell? ⟨o, 3, none⟩ = some (.slice H s.hold.length cap) := (hB0.cell (p := ⟨o, 3, none⟩) l1).trans (one_block hO.self 3)
  have HRUN := Lib.hid h
  have HOWN := Lib.hid hO
  have HW0 := Lib.hid hw0
  have HE0 := Lib.hid hE0
  have HR0 := Lib.hid hR0
  have HX0 := Lib.hid hX0
  have HB0 := Lib.hid hB0
  clear h hO hw0 hE0 hR0 hX0 hB0
  have nb : ∀ b, w.heap.size ≤ b → ¬ (S b ∨ b = m ∨ b = c) := fun b hb e => by (rcases e with e | e | e; have := l5 b e; omega; omega; omega)
  have hbr : w.heap.size ≤ w.heap.size + 1 ∧ w.heap.size + 1 < w0.heap.size := by omega
  have hbx : w.heap.size ≤ w.heap.size + 1 + 1 ∧ w.heap.size + 1 + 1 < w0.heap.size := by omega
  have hcall := tfind_any t c a root A w0.drew S s.p s.T (HOWN.out.cache.below hdr).pool ((hdr.block t (by omega)).trans HOWN.out.tab) (by show t < w0.heap.size; omega) (hf.good.tree hf.root) hop.a0
  obtain ⟨⟨l, r⟩, hlr⟩ : ∃ x : Leaf × Int, x = findRes s.T A := ⟨_, rfl⟩
  rw [← hlr] at hcall
  have hcall2 : Calls Tryz.prog 30 #[.pointer (some ⟨t, 0, none⟩), .int .u64 A] w0.drew fun e w1 => e = .returned (.tuple #[.agg #[.int .i64 (l.frame : Int), .int .u8 (l.prot : Int), .bool l.copy], .int .i64 r]) ∧ Hid (CacheAt w1 S c a fs m s.clock s.p s.L) ∧ Hid (Mod (fun b => S b ∨ b = m ∨ b = c) w0 w1) ∧ BoxAt w1 (w.heap.size + 1 + 1) ∧ BoxAt w1 (w.heap.size + 1) := by
    refine hcall.mono ?_
    rintro e w1 ⟨he, hb⟩
    have hm1 : Mod (fun b => S b ∨ b = m ∨ b = c) w0 w1 := (Mod.of hb).undrew
    exact ⟨he, Lib.hid ((HOWN.out.cache.below hdr).below hb), Lib.hid hm1, told_box HX0.out hm1 (nb _ (by omega)), told_box HR0.out hm1 (nb _ (by omega))⟩
  have hres : DoRes ⟨3, A, fr, q, cp, N⟩ s ⟨0, l, r⟩ s := by
    have h9 := DoRes.find (s := s) (o := ⟨3, A, fr, q, cp, N⟩) rfl
    have h8 : findRes s.T A = (l, r) := hlr.symm
    simp only [h8] at h9
    exact h9
  have HC := Lib.hid hcall2
  have HRES := Lib.hid hres
  clear hcall hcall2 hlr hres
  go_enter Tryz.func11, Tryz.ntmps11
  go_upto_region 1 with (fail)
  go_upto_region 10 with (fail)
  rw [← HW0.out]
  go_region_with ((first
    | (go_at_call 30; refine (HC.out).mono ?_; rintro e w1 ⟨rfl, HC1, HM1, ⟨x0, x1, x2, x3, x4, u0, u1, u2, u3, u4, hlt2⟩, ⟨y0, y1, y2, y3, y4, z0, z1, z2, z3, z4, hlt1⟩⟩)))
  all_goals (go_wp2_with fail; exact bodyPost_ret (v := ((Told.mk 0 l r)).val) (by simp [results, Tryz.results11, go_sem, Told.val, Told.err, noLeaf, hlt1, hlt2, x0, x1, x2, x3, x4, y0, y1, y2, y3, y4, u0, u1, u2, u3, u4, z0, z1, z2, z3, z4]) rfl ⟨(Told.mk 0 l r), s, S, H, cap, rfl, (HRUN.out.turn HB0.out HC1.out HM1.out (Out.refl _ _) (by (repeat (refine Mod.set ?_ (by first | exact hbr | exact hbx))); exact Mod.refl _ _) s.T).1, (HRUN.out.turn HB0.out HC1.out HM1.out (Out.refl _ _) (by (repeat (refine Mod.set ?_ (by first | exact hbr | exact hbx))); exact Mod.refl _ _) s.T).2, HRES.out⟩)

set_option maxRecDepth 100000 in
set_option maxHeartbeats 4000000 in
theorem does_other (B o a c fs m t root n k : Nat) (K A fr q N : Int) (cp : Bool) (w : World) (S : Nat → Prop) (s : Sta) (H : Option Addr) (cap : Nat) (h : RunAt w B o a c fs m t root S s H cap) (hf : s.Fine root n k) (hK : K < 0 ∨ 7 < K) :
    Calls Tryz.prog 11 #[.pointer (some ⟨o, 0, none⟩), .agg #[.int .i64 K, .int .u64 A, .int .i64 fr, .int .u8 q, .bool cp, .int .i64 N]] w (DoesPost w B o a c fs m t root S H ⟨K, A, fr, q, cp, N⟩ s) := by
  have hO := h.own
  obtain ⟨l1, l2, l3, l4, l5⟩ := h.lts
  have hpos := hO.cache.pool.pos
  obtain ⟨w0, hw0⟩ : ∃ w0, w0 = ((w.alloc (.cells #[.int .i64 K, .int .u64 A, .int .i64 fr, .int .u8 q, .bool cp, .int .i64 N] 38)).alloc (.cells #[.int .i64 0, .int .i64 0, .int .u8 0, .bool false, .int .i64 0] 34)).alloc (.cells #[.int .i64 0, .int .i64 0, .int .u8 0, .bool false, .int .i64 0] 34) := ⟨_, rfl⟩
  have hB0 : Below w.heap.size w w0 := by (rw [hw0]; exact (((Below.refl _ _).alloc (Nat.le_refl _) _).alloc (by simp) _).alloc (by simp; omega) _)
  have hs0 : w0.heap.size = w.heap.size + 1 + 1 + 1 := by (rw [hw0]; simp)
  have hE0 : w0.heap[w.heap.size]? = some (.cells #[.int .i64 K, .int .u64 A, .int .i64 fr, .int .u8 q, .bool cp, .int .i64 N] 38 (0, 0)) := by (rw [hw0]; exact (Below.heap_alloc _ _ _ (by simp; omega)).trans ((Below.heap_alloc _ _ _ (by simp)).trans (heap_alloc_new w _)))
  have hR0 : w0.heap[w.heap.size + 1]? = some (.cells #[.int .i64 0, .int .i64 0, .int .u8 0, .bool false, .int .i64 0] 34 (0, 0)) := by
    (rw [hw0]
     have e : (w.alloc (.cells #[.int .i64 K, .int .u64 A, .int .i64 fr, .int .u8 q, .bool cp, .int .i64 N] 38)).heap.size = w.heap.size + 1 := by simp
     rw [← e]
     exact (Below.heap_alloc _ _ _ (by simp)).trans (heap_alloc_new _ _))
  have hX0 : w0.heap[w.heap.size + 1 + 1]? = some (.cells #[.int .i64 0, .int .i64 0, .int .u8 0, .bool false, .int .i64 0] 34 (0, 0)) := by
    (rw [hw0]
     have e : ((w.alloc (.cells #[.int .i64 K, .int .u64 A, .int .i64 fr, .int .u8 q, .bool cp, .int .i64 N] 38)).alloc (.cells #[.int .i64 0, .int .i64 0, .int .u8 0, .bool false, .int .i64 0] 34)).heap.size = w.heap.size + 1 + 1 := by simp
     rw [← e]
     exact heap_alloc_new _ _)
  have hdr : Below w.heap.size w w0.drew := hB0.drew
  have e0 : w0.cell? ⟨w.heap.size, 0, none⟩ = some (.int .i64 K) := one_block hE0 0
  have e1 : w0.cell? ⟨w.heap.size, 1, none⟩ = some (.int .u64 A) := one_block hE0 1
  have e2 : w0.cell? ⟨w.heap.size, 2, none⟩ = some (.int .i64 fr) := one_block hE0 2
  have e3 : w0.cell? ⟨w.heap.size, 3, none⟩ = some (.int .u8 q) := one_block hE0 3
  have e4 : w0.cell? ⟨w.heap.size, 4, none⟩ = some (.bool cp) := one_block hE0 4
  have e5 : w0.cell? ⟨w.heap.size, 5, none⟩ = some (.int .i64 N) := one_block hE0 5
  have o0 : w0.cell? ⟨o, 0, none⟩ = some (.pointer (some ⟨a, 0, none⟩)) := (hB0.cell (p := ⟨o, 0, none⟩) l1).trans (one_block hO.self 0)
  have o1 : w0.cell? ⟨o, 1, none⟩ = some (.pointer (some ⟨c, 0, none⟩)) := (hB0.cell (p := ⟨o, 1, none⟩) l1).trans (one_block hO.self 1)
  have o2 : w0.cell? ⟨o, 2, none⟩ = some (.pointer (some ⟨t, 0, none⟩)) := (hB0.cell (p := ⟨o, 2, none⟩) l1).trans (one_block hO.self 2)
  have o3 : w0.cell? ⟨o, 3, none⟩ = some (.slice H s.hold.length cap) := (hB0.cell (p := ⟨o, 3, none⟩) l1).trans (one_block hO.self 3)
  have HRUN := Lib.hid h
  have HOWN := Lib.hid hO
  have HW0 := Lib.hid hw0
  have HE0 := Lib.hid hE0
  have HR0 := Lib.hid hR0
  have HX0 := Lib.hid hX0
  have HB0 := Lib.hid hB0
  clear h hO hw0 hE0 hR0 hX0 hB0
  have hbr : w.heap.size ≤ w.heap.size + 1 ∧ w.heap.size + 1 < w0.heap.size := by omega
  have hbx : w.heap.size ≤ w.heap.size + 1 + 1 ∧ w.heap.size + 1 + 1 < w0.heap.size := by omega
  have k0 : (K == 0) = false := by rw [beq_eq_false_iff_ne]; omega
  have k1 : (K == 1) = false := by rw [beq_eq_false_iff_ne]; omega
  have k2 : (K == 2) = false := by rw [beq_eq_false_iff_ne]; omega
  have k3 : (K == 3) = false := by rw [beq_eq_false_iff_ne]; omega
  have k4 : (K == 4) = false := by rw [beq_eq_false_iff_ne]; omega
  have k5 : (K == 5) = false := by rw [beq_eq_false_iff_ne]; omega
  have k6 : (K == 6) = false := by rw [beq_eq_false_iff_ne]; omega
  have k7 : (K == 7) = false := by rw [beq_eq_false_iff_ne]; omega
  have HK := Lib.hid hK
  have hm0 : Mod (fun b => S b ∨ b = m ∨ b = c) w0 w0 := Mod.refl _ _
  obtain ⟨x0, x1, x2, x3, x4, u0, u1, u2, u3, u4, hlt2⟩ := told_box (X := fun _ => False) HX0.out (Mod.refl _ _) id
  obtain ⟨y0, y1, y2, y3, y4, z0, z1, z2, z3, z4, hlt1⟩ := told_box (X := fun _ => False) HR0.out (Mod.refl _ _) id
  clear hK
  go_enter Tryz.func11, Tryz.ntmps11
  go_upto_region 1 with (fail)
  go_upto_region 2 with (fail)
  rw [← HW0.out]
  go_wp2_with fail
  exact bodyPost_ret (v := ((Told.err 0)).val) (by simp [results, Tryz.results11, go_sem, Told.val, Told.err, noLeaf, hlt1, hlt2, x0, x1, x2, x3, x4, y0, y1, y2, y3, y4, u0, u1, u2, u3, u4, z0, z1, z2, z3, z4]) rfl ⟨(Told.err 0), s, S, H, cap, rfl, (HRUN.out.turn HB0.out (HOWN.out.cache.below HB0.out) hm0 (Out.refl _ _) (by (repeat (refine Mod.set ?_ (by first | exact hbr | exact hbx))); exact Mod.refl _ _) s.T).1, (HRUN.out.turn HB0.out (HOWN.out.cache.below HB0.out) hm0 (Out.refl _ _) (by (repeat (refine Mod.set ?_ (by first | exact hbr | exact hbx))); exact Mod.refl _ _) s.T).2, .other HK.out⟩

end Go.Proofs.YtmkgdgfbdmjeeaaGreatDoor

namespace Go.Proofs.YtmkgdgfbdmjeeaaGreatDoor
open Go.RowKit Go.Sort
set_option linter.unusedSimpArgs false
set_option linter.unusedVariables false

theorem RunAt.mod {w w' : World} {B o a c fs m t root : Nat} {S X : Nat → Prop} {s : Sta} {H : Option Addr} {cap : Nat} (h : RunAt w B o a c fs m t root S s H cap) (hm : Mod X w w') (hX : ∀ b, X b → B ≤ b ∧ ¬ S b ∧ b ≠ o ∧ b ≠ c ∧ b ≠ m ∧ b ≠ t ∧ b ≠ 0 ∧ H ≠ some ⟨b, 0, none⟩) : RunAt w' B o a c fs m t root S s H cap := by
  obtain ⟨l1, l2, l3, l4, l5⟩ := h.lts
  have hB := h.base
  have hO := h.own
  obtain ⟨wf, hf1, hf2, hf3⟩ := h.files
  have hf4 : Below B wf w' := hf3.trans (hm.below (fun b hb => (hX b hb).1) hB)
  exact ⟨⟨(hm.block o l1 (fun e => (hX o e).2.2.1 rfl)).trans hO.self, hO.cache.mod hm (fun b hb e => (hX b e).2.1 hb) (fun e => (hX 0 e).2.2.2.2.2.2.1 rfl) (fun e => (hX c e).2.2.2.1 rfl) (fun e => (hX m e).2.2.2.2.1 rfl), (hm.block t l2 (fun e => (hX t e).2.2.2.2.2.1 rfl)).trans hO.tab, hf2.below hf1 hf4, hO.low, hO.lows, hO.noS, hO.ne⟩,
    h.row.same fun g hg => hm.block g (h.row.lt g hg).2 (fun e => (hX g e).2.2.2.2.2.2.2 hg), h.rowNo, ⟨wf, hf1, hf2, hf4⟩⟩
/-- Another row of what is held. -/
theorem RunAt.rehold {w w' : World} {B o a c fs m t root : Nat} {S : Nat → Prop} {s : Sta} {H H' : Option Addr} {cap cap' : Nat} {hold' : List Nat} (h : RunAt w B o a c fs m t root S s H cap) (hm : Mod (fun b => b = o ∨ H = some ⟨b, 0, none⟩) w w')
    (hO' : w'.heap[o]? = some (.cells #[.pointer (some ⟨a, 0, none⟩), .pointer (some ⟨c, 0, none⟩), .pointer (some ⟨t, 0, none⟩), .slice H' hold'.length cap'] 56 (0, 0))) (hrow : OwnN w' B H' cap' hold') (hH' : ∀ b, H' = some ⟨b, 0, none⟩ → H = some ⟨b, 0, none⟩ ∨ w.heap.size ≤ b) :
    RunAt w' B o a c fs m t root S ⟨s.p, s.T, s.L, s.clock, hold'⟩ H' cap' := by
  obtain ⟨l1, l2, l3, l4, l5⟩ := h.lts
  have hB := h.base
  have hO := h.own
  have hlow : ∀ b, (b = o ∨ H = some ⟨b, 0, none⟩) → B ≤ b := fun b hb => hb.elim (fun e => by have := hO.lows; omega) (fun e => (h.row.lt b e).1)
  have hbel : Below B w w' := hm.below hlow hB
  obtain ⟨wf, hf1, hf2, hf3⟩ := h.files
  have hf4 : Below B wf w' := hf3.trans hbel
  have hpos := hO.cache.pool.pos
  have hno0 := hO.cache.pool.no0
  have hoff : ∀ b, b ≠ o → (∀ x, H = some ⟨x, 0, none⟩ → b ≠ x) → ¬ (b = o ∨ H = some ⟨b, 0, none⟩) := fun b h1 h2 e => e.elim h1 (fun e => h2 b e rfl)
  have h0 : ¬ ((0 : Nat) = o ∨ H = some ⟨0, 0, none⟩) := fun e => by
    have hB0 : 0 < B := by
      rcases Nat.eq_zero_or_pos B with e0 | e0
      · exfalso
        obtain ⟨_, _, _, _, _, _, hF, _⟩ := hf2
        have : fs < wf.heap.size := (Array.getElem?_eq_some_iff.1 hF).1
        omega
      · exact e0
    have := hlow 0 e
    omega
  refine ⟨⟨hO', hO.cache.mod hm (fun b hb e => e.elim (fun e => hO.noS.1 (e ▸ hb)) (fun e => (h.rowNo b e).1 hb)) h0 (hoff c (fun e => hO.ne.1 e.symm) fun x hx e => (h.rowNo x hx).2.2.1 e.symm) (hoff m (fun e => hO.ne.2.1 e.symm) fun x hx e => (h.rowNo x hx).2.2.2.1 e.symm), (hm.block t l2 (hoff t (fun e => hO.ne.2.2.1 e.symm) fun x hx e => (h.rowNo x hx).2.2.2.2 e.symm)).trans hO.tab, hf2.below hf1 hf4, hO.low, hO.lows, hO.noS, hO.ne⟩, hrow, fun b hb => ?_, ⟨wf, hf1, hf2, hf4⟩⟩
  rcases hH' b hb with e | e
  · exact h.rowNo b e
  · exact ⟨fun e2 => by have := l5 b e2; omega, by omega, by omega, by omega, by omega⟩

theorem step_app_int {w : World} {ops : Array Oper} {o : Oper} {a : Act} {K : Act → World → Prop} {Q : Exit → Act → World → Prop} {E : Prop} (hgd : o.guard = none) (s x : Operand)
    (ho : o.op = .call { callee := .builtin .append, args := #[s, x], argTypes := #[51, 51] })
    (base : Nat) (A : Option Addr) (cap : Nat) (l : List Nat) (hs : a.eval s = .slice A l.length cap) (hown : OwnN w base A cap l)
    (t : Nat) (b c : Nat) (hx : a.eval x = .slice (some ⟨b, 0, none⟩) 1 c) (hb : w.heap[b]? = some (.cells #[.int .i64 (t : Int)] 3 (0, 0)))
    (hfew : l.length < 1000000) (hbase : base ≤ w.heap.size)
    (h : ∀ g cap' w', OwnN w' base (some ⟨g, 0, none⟩) cap' (l ++ [t]) → w.grownBy w' (A.map (·.block)) → (A.map (·.block) = some g ∨ g = w.heap.size) → g < w'.heap.size → K (a.put o.dst (.slice (some ⟨g, 0, none⟩) (l.length + 1) cap')) w') :
    if Region.wanted o (yielded ops a.tmps) = true then Oper.wp Tryz.prog o a w K Q else E := by
  obtain ⟨i0, hi0, hz0, hz1, hz2⟩ := info_parts int_info
  refine step_append_lies w hgd s x 51 ho base 3 i0 _ 1 8 Tryz.underlying51 hi0 hz0 hz1 hz2 rfl (by omega) _ l.length (l.map fun x : Nat => Value.int .i64 (x : Int)) hs hown ⟨b, 0, none⟩ 1 c [.int .i64 (t : Int)] hx rfl (World.news_of_block (cs := #[.int .i64 (t : Int)]) hb)
    (by simp [Value.oneCell']) (by omega) (by unfold maxLen; omega) (by omega) hbase w.heap.size rfl ?_
  intro g cap' w' ho' hg hat hlt
  refine h g cap' w' ?_ ?_ ?_ hlt
  · unfold OwnN
    rw [List.map_append, List.length_append]
    exact ho'
  · cases A <;> simpa [Value.ownBlock] using hg
  · cases A <;> simpa [Value.ownBlock] using hat
theorem DoRes.takeNo {o : Op} {s : Sta} (h : o.kind = 4) (ht : TakeRes s.p s.L 4 0 s.p s.L) : DoRes o s (.err 4) ⟨s.p, s.T, s.L, s.clock, s.hold⟩ := DoRes.take 4 0 s.p s.L h ht
theorem DoRes.takeYes {o : Op} {s : Sta} {f : Nat} {p' : Pool} {L' : List Slot} (h : o.kind = 4) (ht : TakeRes s.p s.L 0 f p' L') : DoRes o s ⟨f, noLeaf, 0⟩ ⟨p', s.T, L', s.clock, s.hold ++ [f]⟩ := DoRes.take 0 f p' L' h ht

set_option maxRecDepth 100000 in
set_option maxHeartbeats 4000000 in
theorem does_take (B o a c fs m t root n k : Nat) (A fr q N : Int) (cp : Bool) (w : World) (S : Nat → Prop) (s : Sta) (H : Option Addr) (cap : Nat) (h : RunAt w B o a c fs m t root S s H cap) (hf : s.Fine root n k) (hk : k ≤ 100000) :
    Calls Tryz.prog 11 #[.pointer (some ⟨o, 0, none⟩), .agg #[.int .i64 4, .int .u64 A, .int .i64 fr, .int .u8 q, .bool cp, .int .i64 N]] w (DoesPost w B o a c fs m t root S H ⟨4, A, fr, q, cp, N⟩ s) := by
  have hO := h.own
  obtain ⟨l1, l2, l3, l4, l5⟩ := h.lts
  have hpos := hO.cache.pool.pos
  obtain ⟨w0, hw0⟩ : ∃ w0, w0 = ((w.alloc (.cells #[.int .i64 4, .int .u64 A, .int .i64 fr, .int .u8 q, .bool cp, .int .i64 N] 38)).alloc (.cells #[.int .i64 0, .int .i64 0, .int .u8 0, .bool false, .int .i64 0] 34)).alloc (.cells #[.int .i64 0, .int .i64 0, .int .u8 0, .bool false, .int .i64 0] 34) := ⟨_, rfl⟩
  have hB0 : Below w.heap.size w w0 := by (rw [hw0]; exact (((Below.refl _ _).alloc (Nat.le_refl _) _).alloc (by simp) _).alloc (by simp; omega) _)
  have hs0 : w0.heap.size = w.heap.size + 1 + 1 + 1 := by (rw [hw0]; simp)
  have hE0 : w0.heap[w.heap.size]? = some (.cells #[.int .i64 4, .int .u64 A, .int .i64 fr, .int .u8 q, .bool cp, .int .i64 N] 38 (0, 0)) := by (rw [hw0]; exact (Below.heap_alloc _ _ _ (by simp; omega)).trans ((Below.heap_alloc _ _ _ (by simp)).trans (heap_alloc_new w _)))
  have hR0 : w0.heap[w.heap.size + 1]? = some (.cells #[.int .i64 0, .int .i64 0, .int .u8 0, .bool false, .int .i64 0] 34 (0, 0)) := by
    (rw [hw0]
     have e : (w.alloc (.cells #[.int .i64 4, .int .u64 A, .int .i64 fr, .int .u8 q, .bool cp, .int .i64 N] 38)).heap.size = w.heap.size + 1 := by simp
     rw [← e]
     exact (Below.heap_alloc _ _ _ (by simp)).trans (heap_alloc_new _ _))
  have hX0 : w0.heap[w.heap.size + 1 + 1]? = some (.cells #[.int .i64 0, .int .i64 0, .int .u8 0, .bool false, .int .i64 0] 34 (0, 0)) := by
    (rw [hw0]
     have e : ((w.alloc (.cells #[.int .i64 4, .int .u64 A, .int .i64 fr, .int .u8 q, .bool cp, .int .i64 N] 38)).alloc (.cells #[.int .i64 0, .int .i64 0, .int .u8 0, .bool false, .int .i64 0] 34)).heap.size = w.heap.size + 1 + 1 := by simp
     rw [← e]
     exact heap_alloc_new _ _)
  have hdr : Below w.heap.size w w0.drew := hB0.drew
  have e0 : w0.cell? ⟨w.heap.size, 0, none⟩ = some (.int .i64 4) := one_block hE0 0
  have e1 : w0.cell? ⟨w.heap.size, 1, none⟩ = some (.int .u64 A) := one_block hE0 1
  have e2 : w0.cell? ⟨w.heap.size, 2, none⟩ = some (.int .i64 fr) := one_block hE0 2
  have e3 : w0.cell? ⟨w.heap.size, 3, none⟩ = some (.int .u8 q) := one_block hE0 3
  have e4 : w0.cell? ⟨w.heap.size, 4, none⟩ = some (.bool cp) := one_block hE0 4
  have e5 : w0.cell? ⟨w.heap.size, 5, none⟩ = some (.int .i64 N) := one_block hE0 5
  have o0 : w0.cell? ⟨o, 0, none⟩ = some (.pointer (some ⟨a, 0, none⟩)) := (hB0.cell (p := ⟨o, 0, none⟩) l1).trans (one_block hO.self 0)
  have o1 : w0.cell? ⟨o, 1, none⟩ = some (.pointer (some ⟨c, 0, none⟩)) := (hB0.cell (p := ⟨o, 1, none⟩) l1).trans (one_block hO.self 1)
  have o2 : w0.cell? ⟨o, 2, none⟩ = some (.pointer (some ⟨t, 0, none⟩)) := (hB0.cell (p := ⟨o, 2, none⟩) l1).trans (one_block hO.self 2)
  have o3 : w0.cell? ⟨o, 3, none⟩ = some (.slice H s.hold.length cap) := (hB0.cell (p := ⟨o, 3, none⟩) l1).trans (one_block hO.self 3)
  have HRUN := Lib.hid h
  have HOWN := Lib.hid hO
  have HW0 := Lib.hid hw0
  have HE0 := Lib.hid hE0
  have HR0 := Lib.hid hR0
  have HX0 := Lib.hid hX0
  have HB0 := Lib.hid hB0
  clear h hO hw0 hE0 hR0 hX0 hB0
  have nb : ∀ b, w.heap.size ≤ b → ¬ (S b ∨ b = m ∨ b = c) := fun b hb e => by (rcases e with e | e | e; have := l5 b e; omega; omega; omega)
  have hbr : w.heap.size ≤ w.heap.size + 1 ∧ w.heap.size + 1 < w0.heap.size := by omega
  have hbx : w.heap.size ≤ w.heap.size + 1 + 1 ∧ w.heap.size + 1 + 1 < w0.heap.size := by omega
  have hcall := ctake_any c a fs m s.clock w0 S s.p s.L (HOWN.out.cache.below HB0.out)
  have HC := Lib.hid hcall
  have hfew := hf.few
  clear hcall
  go_enter Tryz.func11, Tryz.ntmps11
  go_upto_region 1 with (fail)
  go_upto_region 12 with (fail)
  rw [← HW0.out]
  go_upto_region 13 with (first
    | (go_at_call 45; refine (HC.out).mono ?_; rintro e w1 ⟨r, f, p', L', S', rfl, hC1, hm1', ho1, hres⟩; have hm1 : Mod (fun b => S b ∨ b = m ∨ b = c) w0 w1 := hm1'.sub (fun b hb => hb.elim .inl fun e => .inr (.inl e)); have HC1 := Lib.hid hC1; have HM1 := Lib.hid hm1; have HO1 := Lib.hid ho1; have HRES := Lib.hid hres; obtain ⟨x0, x1, x2, x3, x4, u0, u1, u2, u3, u4, hlt2⟩ := told_box HX0.out hm1 (nb _ (by omega)); obtain ⟨y0, y1, y2, y3, y4, z0, z1, z2, z3, z4, hlt1⟩ := told_box HR0.out hm1 (nb _ (by omega)); clear hC1 hm1 hm1' ho1 hres)
    | fail)
  rcases HRES.out.duo with rfl | ⟨rfl, rfl, rfl, rfl⟩
  rotate_left
  · clear e0 e1 e2 e3 e4 e5 o0 o1 o2 o3
    go_wp2_with fail
    exact bodyPost_ret (v := ((Told.err 4)).val) (by simp [results, Tryz.results11, go_sem, Told.val, Told.err, noLeaf, hlt1, hlt2, x0, x1, x2, x3, x4, y0, y1, y2, y3, y4, u0, u1, u2, u3, u4, z0, z1, z2, z3, z4]) rfl ⟨(Told.err 4), ⟨s.p, s.T, s.L, s.clock, s.hold⟩, S', H, cap, rfl, (HRUN.out.turn HB0.out HC1.out HM1.out HO1.out (by (repeat (refine Mod.set ?_ (by first | exact hbr | exact hbx))); exact Mod.refl _ _) s.T).1, (HRUN.out.turn HB0.out HC1.out HM1.out HO1.out (by (repeat (refine Mod.set ?_ (by first | exact hbr | exact hbx))); exact Mod.refl _ _) s.T).2, .takeNo rfl HRES.out⟩
  go_upto_region 14 with (fail)
  obtain ⟨w2, hw2⟩ : ∃ w2, w2 = (w1.setCell ⟨w.heap.size + 1 + 1, 0, none⟩ (.int .i64 (f : Int))).setCell ⟨w.heap.size + 1 + 1, 4, none⟩ (.int .i64 0) := ⟨_, rfl⟩
  rw [← hw2]
  have hm12 : Mod (fun b => w.heap.size ≤ b ∧ b < w0.heap.size) w1 w2 := by rw [hw2]; exact (by (repeat (refine Mod.set ?_ (by first | exact hbr | exact hbx))); exact Mod.refl _ _)
  have hrun2 := (HRUN.out.turn HB0.out HC1.out HM1.out HO1.out hm12 s.T).1
  have hbel2 := (HRUN.out.turn HB0.out HC1.out HM1.out HO1.out hm12 s.T).2
  have hX1 := (HM1.out.block (w.heap.size + 1 + 1) (by omega) (nb _ (by omega))).trans HX0.out
  have hX2 : w2.heap[w.heap.size + 1 + 1]? = some (.cells #[.int .i64 (f : Int), .int .i64 0, .int .u8 0, .bool false, .int .i64 0] 34 (0, 0)) := by
    rw [hw2]
    have h8 := Joins.block_setCell (i := 4) (Joins.block_setCell (i := 0) hX1 (.int .i64 (f : Int))) (.int .i64 0)
    simpa using h8
  have hR1 := (HM1.out.block (w.heap.size + 1) (by omega) (nb _ (by omega))).trans HR0.out
  have hm12' : Mod (fun b => b = w.heap.size + 1 + 1) w1 w2 := by rw [hw2]; exact (mod_set (S := fun b => b = w.heap.size + 1 + 1) rfl 0 _).trans (Out.refl _ _) (mod_set (S := fun b => b = w.heap.size + 1 + 1) rfl 4 _)
  have hR2 := (hm12'.block (w.heap.size + 1) hlt1 (by omega)).trans hR1
  have q0 : w2.cell? ⟨w.heap.size + 1 + 1, 0, none⟩ = some (.int .i64 (f : Int)) := one_block hX2 0
  have q1 : w2.cell? ⟨o, 3, none⟩ = some (.slice H s.hold.length cap) := one_block hrun2.own.self 3
  have q2 : w2.frozen? ⟨o, 3, none⟩ = false := one_free hrun2.own.self 3
  have hz2 := hm12.size
  have hz01 := HM1.out.size
  have hob : o < w2.heap.size := hrun2.lts.1
  have hBb : B ≤ w2.heap.size := hrun2.base
  have hNo : some o ≠ H.map (·.block) := fun e => by
    cases H with
    | none => cases e
    | some ad =>
      rcases HRUN.out.row.form with ⟨h9, _⟩ | ⟨g, h9, _⟩
      · cases h9
      · injection h9 with h9
        subst h9
        simp only [Option.map_some, Option.some.injEq] at e
        exact (HRUN.out.rowNo g rfl).2.1 e.symm
  have hOw : ∀ W, (∀ b, b < w2.heap.size → W.heap[b]? = w2.heap[b]?) → OwnN W B H cap s.hold := fun W hW => hrun2.row.same fun g hg => hW g (hrun2.row.lt g hg).2
  have HOW := Lib.hid hOw
  have HRUN2 := Lib.hid hrun2
  have HBEL2 := Lib.hid hbel2
  have HX2 := Lib.hid hX2
  have HR2 := Lib.hid hR2
  have hlen : s.hold.length < 1000000 := by omega
  have hW1 : ∀ b, b < w2.heap.size → (w2.alloc (.cells #[.int .i64 (f : Int)] 3)).drew.heap[b]? = w2.heap[b]? := fun b hb => (((Below.refl _ _).alloc (Nat.le_refl _) _).drew).block b hb
  have HW1 := Lib.hid hW1
  clear hw2 hm12 hm12' hrun2 hbel2 hX1 hX2 hR1 hR2 hOw e0 e1 e2 e3 e4 e5 o0 o1 o2 o3 x0 x1 x2 x3 x4 y0 y1 y2 y3 y4 u0 u1 u2 u3 u4 z0 z1 z2 z3 z4 hW1
  go_region_law (first
    | (refine step_app_int (by rfl) (.tmp 87) (.tmp 90) (by rfl) B H cap s.hold (by rfl) (HOW.out _ HW1.out) f w2.heap.size 1 (by rfl) (heap_alloc_new w2 _) hlen (by simp; omega) ?_; intro g' cap' w4 ho4 hg4 hat4 hlt4; have p1 := hg4.cell_far ⟨o, 3, none⟩ (by simp; omega) hNo; have p2 := hg4.frozen_far ⟨o, 3, none⟩ (by simp; omega) hNo))
  all_goals
    obtain ⟨w5, hw5⟩ : ∃ w5, w5 = w4.setCell ⟨o, 3, none⟩ (.slice (some ⟨g', 0, none⟩) (s.hold.length + 1) cap') := ⟨_, rfl⟩
    rw [← hw5]
    have hm24 : Mod (fun b => H = some ⟨b, 0, none⟩) w2 w4 := by
      refine ⟨hg4.os, hg4.tape, hg4.output, ?_, fun b hb hn => ?_⟩
      · have := hg4.size
        simp at this
        omega
      · refine (hg4.block b (by simp; omega) (fun e => hn ?_)).trans (HW1.out b hb)
        rcases HRUN.out.row.form with ⟨h9, _⟩ | ⟨g, h9, _⟩
        · rw [h9] at e; cases e
        · rw [h9] at e
          simp only [Option.map_some, Option.some.injEq] at e
          rw [h9, e]
    have hm45 : Mod (fun b => b = o) w4 w5 := by rw [hw5]; exact mod_set (S := fun b => b = o) rfl 3 _
    have hm25 : Mod (fun b => b = o ∨ H = some ⟨b, 0, none⟩) w2 w5 := (hm24.sub fun b hb => .inr hb).trans (Out.refl _ _) (hm45.sub fun b hb => .inl hb)
    have hHo : H ≠ some ⟨o, 0, none⟩ := fun e => (HRUN.out.rowNo o e).2.1 rfl
    have hHlt : ∀ b, H = some ⟨b, 0, none⟩ → b < w.heap.size := fun b e => (HRUN.out.row.lt b e).2
    have hO4 := (hm24.block o hob hHo).trans HRUN2.out.own.self
    have hO5 : w5.heap[o]? = some (.cells #[.pointer (some ⟨a, 0, none⟩), .pointer (some ⟨c, 0, none⟩), .pointer (some ⟨t, 0, none⟩), .slice (some ⟨g', 0, none⟩) (s.hold ++ [f]).length cap'] 56 (0, 0)) := by
      rw [hw5, List.length_append]
      have h8 := Joins.block_setCell (i := 3) hO4 (.slice (some ⟨g', 0, none⟩) (s.hold.length + 1) cap')
      simpa using h8
    have hgo : g' ≠ o := by
      rcases hat4 with e | e
      · rcases HRUN.out.row.form with ⟨h9, _⟩ | ⟨g, h9, _⟩
        · rw [h9] at e; cases e
        · rw [h9] at e
          simp only [Option.map_some, Option.some.injEq] at e
          rw [e] at h9
          exact fun e2 => hHo (e2 ▸ h9)
      · simp at e; omega
    have hrow5 : OwnN w5 B (some ⟨g', 0, none⟩) cap' (s.hold ++ [f]) := ho4.same fun b hb => by
      injection hb with hb
      injection hb with hb
      subst hb
      exact hm45.block _ hlt4 hgo
    have hnew : ∀ b, (some ⟨g', 0, none⟩ : Option Addr) = some ⟨b, 0, none⟩ → H = some ⟨b, 0, none⟩ ∨ w2.heap.size ≤ b := fun b hb => by
      injection hb with hb
      injection hb with hb
      subst hb
      rcases hat4 with e | e
      · left
        rcases HRUN.out.row.form with ⟨h9, _⟩ | ⟨g, h9, _⟩
        · rw [h9] at e; cases e
        · rw [h9] at e
          simp only [Option.map_some, Option.some.injEq] at e
          rw [h9, e]
      · right; simp at e; omega
    have hrun5 := HRUN2.out.rehold hm25 hO5 hrow5 hnew
    have hX5 := (hm25.block (w.heap.size + 1 + 1) (by omega) (fun e => e.elim (fun e => by omega) (fun e => by have := hHlt _ e; omega))).trans HX2.out
    have hR5 := (hm25.block (w.heap.size + 1) (by omega) (fun e => e.elim (fun e => by omega) (fun e => by have := hHlt _ e; omega))).trans HR2.out
    have x0 : w5.cell? ⟨w.heap.size + 1 + 1, 0, none⟩ = some (.int .i64 (f : Int)) := one_block hX5 0
    have x1 : w5.cell? ⟨w.heap.size + 1 + 1, 1, none⟩ = some (.int .i64 0) := one_block hX5 1
    have x2 : w5.cell? ⟨w.heap.size + 1 + 1, 2, none⟩ = some (.int .u8 0) := one_block hX5 2
    have x3 : w5.cell? ⟨w.heap.size + 1 + 1, 3, none⟩ = some (.bool false) := one_block hX5 3
    have x4 : w5.cell? ⟨w.heap.size + 1 + 1, 4, none⟩ = some (.int .i64 0) := one_block hX5 4
    have y0 : w5.cell? ⟨w.heap.size + 1, 0, none⟩ = some (.int .i64 0) := one_block hR5 0
    have y1 : w5.cell? ⟨w.heap.size + 1, 1, none⟩ = some (.int .i64 0) := one_block hR5 1
    have y2 : w5.cell? ⟨w.heap.size + 1, 2, none⟩ = some (.int .u8 0) := one_block hR5 2
    have y3 : w5.cell? ⟨w.heap.size + 1, 3, none⟩ = some (.bool false) := one_block hR5 3
    have y4 : w5.cell? ⟨w.heap.size + 1, 4, none⟩ = some (.int .i64 0) := one_block hR5 4
    have z0 := one_free hR5 0
    have z1 := one_free hR5 1
    have z2 := one_free hR5 2
    have z3 := one_free hR5 3
    have z4 := one_free hR5 4
    have hlt1 : w.heap.size + 1 < w5.heap.size := (Array.getElem?_eq_some_iff.1 hR5).1
    have hbel05 : Mod (fun b => Runs S o c m t H b ∨ w.heap.size ≤ b) w w5 := (HBEL2.out.sub fun b hb => .inl hb).trans (Out.refl _ _) (hm25.sub fun b hb => .inl (hb.elim (fun e => .inr (.inl e)) (fun e => .inr (.inr (.inr (.inr (.inr e)))))))
    have hok : ∀ b, b = w.heap.size + 1 → B ≤ b ∧ ¬ S' b ∧ b ≠ o ∧ b ≠ c ∧ b ≠ m ∧ b ≠ t ∧ b ≠ 0 ∧ (some ⟨g', 0, none⟩ : Option Addr) ≠ some ⟨b, 0, none⟩ := fun b hb => by
      have hBw := HRUN.out.base
      refine ⟨by omega, fun e => (HO1.out b e).elim (fun e => by have := l5 b e; omega) (fun e => by omega), by omega, by omega, by omega, by omega, by omega, fun e => ?_⟩
      rcases hnew b e with e2 | e2
      · have := hHlt b e2; omega
      · omega
    have HR5 := Lib.hid hrun5
    have HB5 := Lib.hid hbel05
    clear hw5 hm24 hm45 hm25 hO4 hO5 hrow5 hnew hrun5 hX5 hR5 hbel05 p1 p2 q0 q1 q2 ho4 hg4 hat4
    go_wp2_with fail
    have hm56 := fun (X : Nat → Prop) (hx : X (w.heap.size + 1)) => ((((mod_set (w := w5) (S := X) hx 0 (.int .i64 (f : Int))).trans (Out.refl _ _) (mod_set hx 1 (.int .i64 0))).trans (Out.refl _ _) (mod_set hx 2 (.int .u8 0))).trans (Out.refl _ _) (mod_set hx 3 (.bool false))).trans (Out.refl _ _) (mod_set hx 4 (.int .i64 0))
    have hm6 := hm56 (fun b => b = w.heap.size + 1) rfl
    exact bodyPost_ret (v := (Told.mk (f : Int) noLeaf 0).val) (by simp [results, Tryz.results11, go_sem, Told.val, noLeaf, hlt1, x0, x1, x2, x3, x4, y0, y1, y2, y3, y4, z0, z1, z2, z3, z4]) rfl ⟨⟨f, noLeaf, 0⟩, ⟨p', s.T, L', s.clock, s.hold ++ [f]⟩, S', some ⟨g', 0, none⟩, cap', rfl, HR5.out.mod hm6 hok, Mod.old (HB5.out.trans (Out.refl _ _) (hm6.sub fun b hb => .inr (by omega))), .takeYes rfl HRES.out⟩

end Go.Proofs.YtmkgdgfbdmjeeaaGreatDoor

namespace Go.Proofs.YtmkgdgfbdmjeeaaGreatDoor
open Go.RowKit Go.Sort
set_option linter.unusedSimpArgs false
set_option linter.unusedVariables false

theorem RunAt.below {w w' : World} {B o a c fs m t root : Nat} {S : Nat → Prop} {s : Sta} {H : Option Addr} {cap : Nat} (h : RunAt w B o a c fs m t root S s H cap) (hb : Below w.heap.size w w') : RunAt w' B o a c fs m t root S s H cap :=
  h.mod (X := fun _ => False) (Mod.of hb) (fun _ e => e.elim)

set_option maxRecDepth 100000 in
set_option maxHeartbeats 4000000 in
theorem does_giveNo (B o a c fs m t root n k : Nat) (A fr q N : Int) (cp : Bool) (w : World) (S : Nat → Prop) (s : Sta) (H : Option Addr) (cap : Nat) (h : RunAt w B o a c fs m t root S s H cap) (hf : s.Fine root n k) (hk : k ≤ 100000) (hN : N < 0 ∨ (s.hold.length : Int) ≤ N) :
    Calls Tryz.prog 11 #[.pointer (some ⟨o, 0, none⟩), .agg #[.int .i64 6, .int .u64 A, .int .i64 fr, .int .u8 q, .bool cp, .int .i64 N]] w (DoesPost w B o a c fs m t root S H ⟨6, A, fr, q, cp, N⟩ s) := by
  have hO := h.own
  obtain ⟨l1, l2, l3, l4, l5⟩ := h.lts
  have hpos := hO.cache.pool.pos
  obtain ⟨w0, hw0⟩ : ∃ w0, w0 = ((w.alloc (.cells #[.int .i64 6, .int .u64 A, .int .i64 fr, .int .u8 q, .bool cp, .int .i64 N] 38)).alloc (.cells #[.int .i64 0, .int .i64 0, .int .u8 0, .bool false, .int .i64 0] 34)).alloc (.cells #[.int .i64 0, .int .i64 0, .int .u8 0, .bool false, .int .i64 0] 34) := ⟨_, rfl⟩
  have hB0 : Below w.heap.size w w0 := by (rw [hw0]; exact (((Below.refl _ _).alloc (Nat.le_refl _) _).alloc (by simp) _).alloc (by simp; omega) _)
  have hs0 : w0.heap.size = w.heap.size + 1 + 1 + 1 := by (rw [hw0]; simp)
  have hE0 : w0.heap[w.heap.size]? = some (.cells #[.int .i64 6, .int .u64 A, .int .i64 fr, .int .u8 q, .bool cp, .int .i64 N] 38 (0, 0)) := by (rw [hw0]; exact (Below.heap_alloc _ _ _ (by simp; omega)).trans ((Below.heap_alloc _ _ _ (by simp)).trans (heap_alloc_new w _)))
  have hR0 : w0.heap[w.heap.size + 1]? = some (.cells #[.int .i64 0, .int .i64 0, .int .u8 0, .bool false, .int .i64 0] 34 (0, 0)) := by
    (rw [hw0]
     have e : (w.alloc (.cells #[.int .i64 6, .int .u64 A, .int .i64 fr, .int .u8 q, .bool cp, .int .i64 N] 38)).heap.size = w.heap.size + 1 := by simp
     rw [← e]
     exact (Below.heap_alloc _ _ _ (by simp)).trans (heap_alloc_new _ _))
  have hX0 : w0.heap[w.heap.size + 1 + 1]? = some (.cells #[.int .i64 0, .int .i64 0, .int .u8 0, .bool false, .int .i64 0] 34 (0, 0)) := by
    (rw [hw0]
     have e : ((w.alloc (.cells #[.int .i64 6, .int .u64 A, .int .i64 fr, .int .u8 q, .bool cp, .int .i64 N] 38)).alloc (.cells #[.int .i64 0, .int .i64 0, .int .u8 0, .bool false, .int .i64 0] 34)).heap.size = w.heap.size + 1 + 1 := by simp
     rw [← e]
     exact heap_alloc_new _ _)
  have hdr : Below w.heap.size w w0.drew := hB0.drew
  have e0 : w0.cell? ⟨w.heap.size, 0, none⟩ = some (.int .i64 6) := one_block hE0 0
  have e1 : w0.cell? ⟨w.heap.size, 1, none⟩ = some (.int .u64 A) := one_block hE0 1
  have e2 : w0.cell? ⟨w.heap.size, 2, none⟩ = some (.int .i64 fr) := one_block hE0 2
  have e3 : w0.cell? ⟨w.heap.size, 3, none⟩ = some (.int .u8 q) := one_block hE0 3
  have e4 : w0.cell? ⟨w.heap.size, 4, none⟩ = some (.bool cp) := one_block hE0 4
  have e5 : w0.cell? ⟨w.heap.size, 5, none⟩ = some (.int .i64 N) := one_block hE0 5
  have o0 : w0.cell? ⟨o, 0, none⟩ = some (.pointer (some ⟨a, 0, none⟩)) := (hB0.cell (p := ⟨o, 0, none⟩) l1).trans (one_block hO.self 0)
  have o1 : w0.cell? ⟨o, 1, none⟩ = some (.pointer (some ⟨c, 0, none⟩)) := (hB0.cell (p := ⟨o, 1, none⟩) l1).trans (one_block hO.self 1)
  have o2 : w0.cell? ⟨o, 2, none⟩ = some (.pointer (some ⟨t, 0, none⟩)) := (hB0.cell (p := ⟨o, 2, none⟩) l1).trans (one_block hO.self 2)
  have o3 : w0.cell? ⟨o, 3, none⟩ = some (.slice H s.hold.length cap) := (hB0.cell (p := ⟨o, 3, none⟩) l1).trans (one_block hO.self 3)
  have HRUN := Lib.hid h
  have HOWN := Lib.hid hO
  have HW0 := Lib.hid hw0
  have HE0 := Lib.hid hE0
  have HR0 := Lib.hid hR0
  have HX0 := Lib.hid hX0
  have HB0 := Lib.hid hB0
  clear h hO hw0 hE0 hR0 hX0 hB0
  have hbr : w.heap.size ≤ w.heap.size + 1 ∧ w.heap.size + 1 < w0.heap.size := by omega
  have hbx : w.heap.size ≤ w.heap.size + 1 + 1 ∧ w.heap.size + 1 + 1 < w0.heap.size := by omega
  have d0 : ∀ d os, (grow (redrawn w0 d) os).cell? ⟨o, 3, none⟩ = some (.slice H s.hold.length cap) := fun d os => cell_regrown o3 d os
  have d1 : ∀ d os, (grow (redrawn w0 d) os).cell? ⟨w.heap.size, 5, none⟩ = some (.int .i64 N) := fun d os => cell_regrown e5 d os
  have hG := fun d os => Calls.regrown_of ((lat_no H s.hold.length cap N (grow (redrawn w0 d) os) hN).mono fun _ _ ⟨h1, h2⟩ => ⟨h1, h2 ▸ Below.refl _ _⟩)
  have HG := Lib.hid hG
  have HN := Lib.hid hN
  clear hG hN
  go_enter Tryz.func11, Tryz.ntmps11
  go_upto_region 1 with (fail)
  go_upto_region 18 with (fail)
  rw [← HW0.out]
  refine wp_region_quiet_below (by kernel_rfl) (by kernel_rfl) ?_; (repeat (go_big_quiet_step ((exact HG.out _ _)))); refine wpQuiet_nil ?_; intro _ hw'; obtain ⟨⟨dq, osq⟩, hw''⟩ := hw'; subst hw''; have hbq := below_regrown (w0) dq osq; generalize grow (redrawn (w0) dq) osq = wq at hbq ⊢
  clear d0 d1 e0 e1 e2 e3 e4 e5 o0 o1 o2 o3
  have hm1 : Mod (fun b => S b ∨ b = m ∨ b = c) w0 wq := Mod.of hbq
  obtain ⟨x0, x1, x2, x3, x4, u0, u1, u2, u3, u4, hlt2⟩ := told_box (X := fun _ => False) HX0.out (Mod.of hbq) id
  obtain ⟨y0, y1, y2, y3, y4, z0, z1, z2, z3, z4, hlt1⟩ := told_box (X := fun _ => False) HR0.out (Mod.of hbq) id
  go_wp2_with fail
  exact bodyPost_ret (v := ((Told.err 0)).val) (by simp [results, Tryz.results11, go_sem, Told.val, Told.err, noLeaf, hlt1, hlt2, x0, x1, x2, x3, x4, y0, y1, y2, y3, y4, u0, u1, u2, u3, u4, z0, z1, z2, z3, z4]) rfl ⟨(Told.err 0), s, S, H, cap, rfl, (HRUN.out.turn HB0.out ((HOWN.out.cache.below HB0.out).below hbq) hm1 (Out.refl _ _) (by (repeat (refine Mod.set ?_ (by first | exact hbr | exact hbx))); exact Mod.refl _ _) s.T).1, (HRUN.out.turn HB0.out ((HOWN.out.cache.below HB0.out).below hbq) hm1 (Out.refl _ _) (by (repeat (refine Mod.set ?_ (by first | exact hbr | exact hbx))); exact Mod.refl _ _) s.T).2, .giveNone rfl HN.out⟩

set_option maxRecDepth 100000 in
set_option maxHeartbeats 4000000 in
theorem does_give (B o a c fs m t root n k i f : Nat) (A fr q : Int) (cp : Bool) (w : World) (S : Nat → Prop) (s : Sta) (H : Option Addr) (cap : Nat) (h : RunAt w B o a c fs m t root S s H cap) (hf : s.Fine root n k) (hk : k ≤ 100000) (hi : s.hold[i]? = some f) :
    Calls Tryz.prog 11 #[.pointer (some ⟨o, 0, none⟩), .agg #[.int .i64 6, .int .u64 A, .int .i64 fr, .int .u8 q, .bool cp, .int .i64 (i : Int)]] w (DoesPost w B o a c fs m t root S H ⟨6, A, fr, q, cp, (i : Int)⟩ s) := by
  obtain ⟨N, hNi⟩ : ∃ N : Int, N = (i : Int) := ⟨_, rfl⟩
  rw [← hNi]
  have hO := h.own
  obtain ⟨l1, l2, l3, l4, l5⟩ := h.lts
  have hpos := hO.cache.pool.pos
  obtain ⟨w0, hw0⟩ : ∃ w0, w0 = ((w.alloc (.cells #[.int .i64 6, .int .u64 A, .int .i64 fr, .int .u8 q, .bool cp, .int .i64 N] 38)).alloc (.cells #[.int .i64 0, .int .i64 0, .int .u8 0, .bool false, .int .i64 0] 34)).alloc (.cells #[.int .i64 0, .int .i64 0, .int .u8 0, .bool false, .int .i64 0] 34) := ⟨_, rfl⟩
  have hB0 : Below w.heap.size w w0 := by (rw [hw0]; exact (((Below.refl _ _).alloc (Nat.le_refl _) _).alloc (by simp) _).alloc (by simp; omega) _)
  have hs0 : w0.heap.size = w.heap.size + 1 + 1 + 1 := by (rw [hw0]; simp)
  have hE0 : w0.heap[w.heap.size]? = some (.cells #[.int .i64 6, .int .u64 A, .int .i64 fr, .int .u8 q, .bool cp, .int .i64 N] 38 (0, 0)) := by (rw [hw0]; exact (Below.heap_alloc _ _ _ (by simp; omega)).trans ((Below.heap_alloc _ _ _ (by simp)).trans (heap_alloc_new w _)))
  have hR0 : w0.heap[w.heap.size + 1]? = some (.cells #[.int .i64 0, .int .i64 0, .int .u8 0, .bool false, .int .i64 0] 34 (0, 0)) := by
    (rw [hw0]
     have e : (w.alloc (.cells #[.int .i64 6, .int .u64 A, .int .i64 fr, .int .u8 q, .bool cp, .int .i64 N] 38)).heap.size = w.heap.size + 1 := by simp
     rw [← e]
     exact (Below.heap_alloc _ _ _ (by simp)).trans (heap_alloc_new _ _))
  have hX0 : w0.heap[w.heap.size + 1 + 1]? = some (.cells #[.int .i64 0, .int .i64 0, .int .u8 0, .bool false, .int .i64 0] 34 (0, 0)) := by
    (rw [hw0]
     have e : ((w.alloc (.cells #[.int .i64 6, .int .u64 A, .int .i64 fr, .int .u8 q, .bool cp, .int .i64 N] 38)).alloc (.cells #[.int .i64 0, .int .i64 0, .int .u8 0, .bool false, .int .i64 0] 34)).heap.size = w.heap.size + 1 + 1 := by simp
     rw [← e]
     exact heap_alloc_new _ _)
  have hdr : Below w.heap.size w w0.drew := hB0.drew
  have e0 : w0.cell? ⟨w.heap.size, 0, none⟩ = some (.int .i64 6) := one_block hE0 0
  have e1 : w0.cell? ⟨w.heap.size, 1, none⟩ = some (.int .u64 A) := one_block hE0 1
  have e2 : w0.cell? ⟨w.heap.size, 2, none⟩ = some (.int .i64 fr) := one_block hE0 2
  have e3 : w0.cell? ⟨w.heap.size, 3, none⟩ = some (.int .u8 q) := one_block hE0 3
  have e4 : w0.cell? ⟨w.heap.size, 4, none⟩ = some (.bool cp) := one_block hE0 4
  have e5 : w0.cell? ⟨w.heap.size, 5, none⟩ = some (.int .i64 N) := one_block hE0 5
  have o0 : w0.cell? ⟨o, 0, none⟩ = some (.pointer (some ⟨a, 0, none⟩)) := (hB0.cell (p := ⟨o, 0, none⟩) l1).trans (one_block hO.self 0)
  have o1 : w0.cell? ⟨o, 1, none⟩ = some (.pointer (some ⟨c, 0, none⟩)) := (hB0.cell (p := ⟨o, 1, none⟩) l1).trans (one_block hO.self 1)
  have o2 : w0.cell? ⟨o, 2, none⟩ = some (.pointer (some ⟨t, 0, none⟩)) := (hB0.cell (p := ⟨o, 2, none⟩) l1).trans (one_block hO.self 2)
  have o3 : w0.cell? ⟨o, 3, none⟩ = some (.slice H s.hold.length cap) := (hB0.cell (p := ⟨o, 3, none⟩) l1).trans (one_block hO.self 3)
  have HRUN := Lib.hid h
  have HOWN := Lib.hid hO
  have HW0 := Lib.hid hw0
  have HE0 := Lib.hid hE0
  have HR0 := Lib.hid hR0
  have HX0 := Lib.hid hX0
  have HB0 := Lib.hid hB0
  clear h hO hw0 hE0 hR0 hX0 hB0
  have hbr : w.heap.size ≤ w.heap.size + 1 ∧ w.heap.size + 1 < w0.heap.size := by omega
  have hbx : w.heap.size ≤ w.heap.size + 1 + 1 ∧ w.heap.size + 1 + 1 < w0.heap.size := by omega
  have d0 : ∀ d os, (grow (redrawn w0 d) os).cell? ⟨o, 3, none⟩ = some (.slice H s.hold.length cap) := fun d os => cell_regrown o3 d os
  have d1 : ∀ d os, (grow (redrawn w0 d) os).cell? ⟨w.heap.size, 5, none⟩ = some (.int .i64 N) := fun d os => cell_regrown e5 d os
  have hrun0 := HRUN.out.below HB0.out
  have hG : ∀ d os, _ := fun d os => Calls.regrown_of ((lat_yes B H cap i f s.hold (grow (redrawn w0 d) os) (hrun0.below (below_regrown w0 d os)).row hi).mono fun _ _ ⟨h1, h2⟩ => ⟨h1, h2 ▸ Below.refl _ _⟩)
  rw [← hNi] at hG
  have hil : i < s.hold.length := (List.getElem?_eq_some_iff.1 hi).1
  have hless := fun W (hW : Below w0.heap.size w0 W) => less_any B H cap i s.hold W (hrun0.below hW).row hil (by have := hf.few; omega)
  rw [← hNi] at hless
  have hfn : f < s.p.n := by rw [hf.size]; exact hf.low f (List.mem_of_getElem? hi)
  have hfc : 1 ≤ s.p.cnt f := by
    have h1 := hf.good.cnt f hfn
    have h2 := cntH_pos hi
    unfold held at h1
    omega
  have hlen : (s.hold.eraseIdx i).length = s.hold.length - 1 := by rw [List.length_eraseIdx, if_pos hil]
  have hres : DoRes ⟨6, A, fr, q, cp, N⟩ s (.err 0) ⟨s.p.down f, s.T, s.L, s.clock, s.hold.eraseIdx i⟩ := by
    have h9 := DoRes.give (s := s) (o := ⟨6, A, fr, q, cp, N⟩) f rfl (by show 0 ≤ N; omega) (by show s.hold[N.toNat]? = some f; rw [hNi, Int.toNat_natCast]; exact hi)
    simp only [hNi, Int.toNat_natCast] at h9 ⊢
    exact h9
  have HRES := Lib.hid hres
  have HG := Lib.hid hG
  have HLESS := Lib.hid hless
  have HRUN0 := Lib.hid hrun0
  clear hG hNi hless hi hrun0 hres
  go_enter Tryz.func11, Tryz.ntmps11
  go_upto_region 1 with (fail)
  go_upto_region 18 with (fail)
  rw [← HW0.out]
  refine wp_region_quiet_below (by kernel_rfl) (by kernel_rfl) ?_; (repeat (go_big_quiet_step ((exact HG.out _ _)))); refine wpQuiet_nil ?_; intro _ hw'; obtain ⟨⟨dq, osq⟩, hw''⟩ := hw'; subst hw''; have hbq := below_regrown (w0) dq osq; generalize grow (redrawn (w0) dq) osq = wq at hbq ⊢
  clear d0 d1 e0 e1 e2 e3 e4 o0 o1 o2
  have hzq := hbq.size
  have q3 : wq.cell? ⟨o, 3, none⟩ = some (.slice H s.hold.length cap) := (hbq.cell (p := ⟨o, 3, none⟩) (by show o < _; omega)).trans o3
  have q5 : wq.cell? ⟨w.heap.size, 5, none⟩ = some (.int .i64 N) := (hbq.cell (p := ⟨w.heap.size, 5, none⟩) (by show w.heap.size < _; omega)).trans e5
  clear o3 e5
  have hdq : Below wq.heap.size wq wq.drew := (Below.refl _ _).drew
  have hrunq := HRUN0.out.below hbq
  have hoq : o < wq.heap.size := hrunq.lts.1
  have hcall : Calls Tryz.prog 48 #[.slice H s.hold.length cap, .int .i64 N] wq.drew fun e w2 => ∃ g cap', e = .returned (.slice (some ⟨g, 0, none⟩) (s.hold.length - 1) cap') ∧ Hid (OwnN w2 wq.heap.size (some ⟨g, 0, none⟩) cap' (s.hold.eraseIdx i)) ∧ Hid (Below wq.heap.size wq w2) ∧ w2.cell? ⟨o, 3, none⟩ = some (.slice H s.hold.length cap) ∧ w2.frozen? ⟨o, 3, none⟩ = false := by
    refine (HLESS.out wq.drew (hbq.trans (hdq.mono hzq))).mono ?_
    rintro e w2 ⟨g, cap', rfl, ho2, hb2⟩
    have hbb : Below wq.heap.size wq w2 := hdq.trans hb2
    have hO2 := (hbb.block o hoq).trans hrunq.own.self
    exact ⟨g, cap', by rw [hlen], Lib.hid ho2, Lib.hid hbb, one_block hO2 3, one_free hO2 3⟩
  have HRQ := Lib.hid hrunq
  have HC := Lib.hid hcall
  have HBQ := Lib.hid hbq
  clear hcall hrunq HLESS hdq
  go_upto_region 20 with (fail)
  go_region_with ((first
    | (go_at_call 48; refine (HC.out).mono ?_; rintro e w2 ⟨g, cap', rfl, HO2, HB2, p1, p2⟩)))
  all_goals
    obtain ⟨w3, hw3⟩ : ∃ w3, w3 = w2.setCell ⟨o, 3, none⟩ (.slice (some ⟨g, 0, none⟩) (s.hold.length - 1) cap') := ⟨_, rfl⟩
    rw [← hw3]
    have hm23 : Mod (fun b => b = o) w2 w3 := by rw [hw3]; exact mod_set (S := fun b => b = o) rfl 3 _
    have hmq3 : Mod (fun b => b = o ∨ H = some ⟨b, 0, none⟩) wq w3 := (Mod.of HB2.out).trans (Out.refl _ _) (hm23.sub fun b hb => .inl hb)
    have hO2 := (HB2.out.block o hoq).trans HRQ.out.own.self
    have hO3 : w3.heap[o]? = some (.cells #[.pointer (some ⟨a, 0, none⟩), .pointer (some ⟨c, 0, none⟩), .pointer (some ⟨t, 0, none⟩), .slice (some ⟨g, 0, none⟩) (s.hold.eraseIdx i).length cap'] 56 (0, 0)) := by
      rw [hw3, hlen]
      have h8 := Joins.block_setCell (i := 3) hO2 (.slice (some ⟨g, 0, none⟩) (s.hold.length - 1) cap')
      simpa using h8
    have hgq := HO2.out.formS
    have hrow3 : OwnN w3 B (some ⟨g, 0, none⟩) cap' (s.hold.eraseIdx i) := (HO2.out.lower HRQ.out.base).same fun b hb => by
      injection hb with hb
      injection hb with hb
      subst hb
      exact hm23.block _ hgq.2.1 (by omega)
    have hrun3 := HRQ.out.rehold hmq3 hO3 hrow3 (fun b hb => by injection hb with hb; injection hb with hb; subst hb; exact .inr hgq.1)
    have r0 : w3.cell? ⟨o, 0, none⟩ = some (.pointer (some ⟨a, 0, none⟩)) := one_block hO3 0
    have HR3 := Lib.hid hrun3
    have HM3 := Lib.hid hmq3
    clear hw3 hm23 hmq3 hO2 hO3 hrow3 hrun3 p1 p2 q3 q5
    go_upto_region 24 with (first
      | (go_at_call 49; refine (down_yes a f w3 S s.p HR3.out.own.cache.pool hfn hfc).mono ?_; rintro e w4 ⟨rfl, hP4, hm4⟩; have HP4 := Lib.hid hP4; have HM4 := Lib.hid hm4; clear hP4 hm4; have hm04 : Mod (fun b => S b ∨ b = o ∨ H = some ⟨b, 0, none⟩) w0 w4 := (Mod.of HBQ.out).trans (Out.refl _ _) ((HM3.out.sub fun b hb => .inr hb).trans (Out.refl _ _) (HM4.out.sub fun b hb => .inl hb)); have hnx : ∀ b, w.heap.size ≤ b → ¬ (S b ∨ b = o ∨ H = some ⟨b, 0, none⟩) := (fun b hb e => by (rcases e with e | e | e; have := l5 b e; omega; omega; have := (HRUN.out.row.lt b e).2; omega)); obtain ⟨x0, x1, x2, x3, x4, u0, u1, u2, u3, u4, hlt2⟩ := told_box HX0.out hm04 (hnx _ (by omega)); obtain ⟨y0, y1, y2, y3, y4, z0, z1, z2, z3, z4, hlt1⟩ := told_box HR0.out hm04 (hnx _ (by omega)); clear hm04)
      | fail)
    have hC4 := HR3.out.own.cache.turn HM4.out HP4.out (Out.refl _ _)
    obtain ⟨hrun4, hbel4⟩ := HR3.out.turn (Below.refl _ _) hC4 (HM4.out.sub fun b hb => .inl hb) (Out.refl _ _) (Mod.refl (fun b => w3.heap.size ≤ b ∧ b < w3.heap.size) w4) s.T
    have hok : ∀ b, (w.heap.size ≤ b ∧ b < w0.heap.size) → B ≤ b ∧ ¬ S b ∧ b ≠ o ∧ b ≠ c ∧ b ≠ m ∧ b ≠ t ∧ b ≠ 0 ∧ (some ⟨g, 0, none⟩ : Option Addr) ≠ some ⟨b, 0, none⟩ := fun b hb => by
      have hBw := HRUN.out.base
      refine ⟨by omega, fun e => by have := l5 b e; omega, by omega, by omega, by omega, by omega, by omega, fun e => ?_⟩
      injection e with e
      injection e with e
      omega
    have HR4 := Lib.hid hrun4
    have HB4 := Lib.hid ((HRUN.out.below HB0.out).base)
    have hbw4 : Mod (fun b => Runs S o c m t H b ∨ w.heap.size ≤ b) w w4 := (Mod.of HB0.out).trans (Out.refl _ _) ((Mod.of HBQ.out).trans (Out.refl _ _) ((HM3.out.sub fun b hb => .inl (hb.elim (fun e => .inr (.inl e)) (fun e => .inr (.inr (.inr (.inr (.inr e))))))).trans (Out.refl _ _) (HM4.out.sub fun b hb => .inl (.inl hb))))
    have HBW4 := Lib.hid hbw4
    clear hC4 hrun4 hbel4 hbw4 r0
    go_wp2_with fail
    have hm6 : ∀ W, Mod (fun b => w.heap.size ≤ b ∧ b < w0.heap.size) w4 W → RunAt W B o a c fs m t root S ⟨s.p.down f, s.T, s.L, s.clock, s.hold.eraseIdx i⟩ (some ⟨g, 0, none⟩) cap' ∧ Mod (Runs S o c m t H) w W := fun W hW => ⟨HR4.out.mod hW hok, Mod.old (HBW4.out.trans (Out.refl _ _) (hW.sub fun b hb => .inr hb.1))⟩
    exact bodyPost_ret (v := ((Told.err 0)).val) (by simp [results, Tryz.results11, go_sem, Told.val, Told.err, noLeaf, hlt1, hlt2, x0, x1, x2, x3, x4, y0, y1, y2, y3, y4, u0, u1, u2, u3, u4, z0, z1, z2, z3, z4]) rfl ⟨(Told.err 0), ⟨s.p.down f, s.T, s.L, s.clock, s.hold.eraseIdx i⟩, S, (some ⟨g, 0, none⟩), cap', rfl, (hm6 _ (by (repeat (refine Mod.set ?_ (by first | exact hbr | exact hbx))); exact Mod.refl _ _)).1, (hm6 _ (by (repeat (refine Mod.set ?_ (by first | exact hbr | exact hbx))); exact Mod.refl _ _)).2, HRES.out⟩

end Go.Proofs.YtmkgdgfbdmjeeaaGreatDoor

namespace Go.Proofs.YtmkgdgfbdmjeeaaGreatDoor
open Go.RowKit Go.Sort
set_option linter.unusedSimpArgs false
set_option linter.unusedVariables false

theorem vast_no (n : Int) (A : Option Addr) (k cap : Nat) (w : World) (hn : n ≤ 96) (hk : (k : Int) ≤ 120) : Calls Tryz.prog 7 #[.int .i64 n, .slice A k cap] w fun e w' => e = .returned (.bool false) ∧ w = w' := by
  go_enter Tryz.func7, Tryz.ntmps7
  go_wp2_with fail
  go_ret
  exact ⟨ret_bool (a := decide (96 < n) || decide (120 < (k : Int))) (by simp; omega), rfl⟩
theorem vast_yes (n : Int) (A : Option Addr) (k cap : Nat) (w : World) (h : 96 < n ∨ (120 : Int) < (k : Int)) : Calls Tryz.prog 7 #[.int .i64 n, .slice A k cap] w fun e w' => e = .returned (.bool true) ∧ w = w' := by
  by_cases h1 : 96 < n
  · clear h
    go_enter Tryz.func7, Tryz.ntmps7
    go_wp2_with fail
    go_ret
    exact ⟨rfl, rfl⟩
  · have h2 : (120 : Int) < (k : Int) := by omega
    have h3 : n ≤ 96 := by omega
    clear h
    go_enter Tryz.func7, Tryz.ntmps7
    go_wp2_with fail
    go_ret
    exact ⟨rfl, rfl⟩
theorem fnew_bad (n : Int) (w : World) (h : n < 1) : Calls Tryz.prog 36 #[.int .i64 n] w fun e w' => e = .returned (.tuple #[.pointer none, .int .i64 1]) ∧ w = w' := by
  go_enter Tryz.func36, Tryz.ntmps36
  go_wp2_with fail
  go_ret2
  exact ⟨rfl, rfl⟩
theorem made_bad (n : Int) (w : World) (h : n < 1) (hw0 : 0 < w.heap.size) : Calls Tryz.prog 9 #[.int .i64 n] w fun e w' => e = .returned (.tuple #[.pointer none, .bool true]) ∧ Below w.heap.size w w' := by
  go_enter Tryz.func9, Tryz.ntmps9
  go_wp2_with (first
    | (go_at_call 35; refine (file_any _).mono ?_; rintro e w1 ⟨b, g, rfl, hE, hA, hg, hb1⟩; have HE := Lib.hid hE; have HA := Lib.hid hA; have HB1 := Lib.hid hb1; clear hE hA hb1)
    | (go_at_call 34; refine (vnew_a b 8201 8201 ⟨g, 0, none⟩ fileDat _ HE.out HA.out hg (by omega) (by omega)).mono ?_; rintro e w2 ⟨fs, rfl, hF, hb2⟩; have hB2 := HB1.out.trans (hb2.mono HB1.out.size); have HB2 := Lib.hid hB2; clear hF hb2 hB2)
    | (go_at_call 36; refine (fnew_bad n _ h).mono ?_; rintro e w3 ⟨rfl, rfl⟩))
  go_ret2
  exact ⟨rfl, HB2.out⟩

theorem does_any (B o a c fs m t root n k : Nat) (op : Op) (w : World) (S : Nat → Prop) (s : Sta) (H : Option Addr) (cap : Nat) (h : RunAt w B o a c fs m t root S s H cap) (hf : s.Fine root n k) (hk : k ≤ 100000) (hop : op.Ok) (h7 : op.kind ≠ 7) :
    Calls Tryz.prog 11 #[.pointer (some ⟨o, 0, none⟩), op.val] w (DoesPost w B o a c fs m t root S H op s) := by
  obtain ⟨K, A, fr, q, cp, N⟩ := op
  simp only at h7
  have hc : K = 0 ∨ K = 1 ∨ K = 2 ∨ K = 3 ∨ K = 4 ∨ K = 5 ∨ K = 6 ∨ (K < 0 ∨ 7 < K) := by omega
  rcases hc with rfl | rfl | rfl | rfl | rfl | rfl | rfl | hK
  · exact does_map B o a c fs m t root n k A fr q N cp w S s H cap h hf hk hop
  · exact does_unmap B o a c fs m t root n k A fr q N cp w S s H cap h hf hk hop
  · exact does_set B o a c fs m t root n k A fr q N cp w S s H cap h hf hk hop
  · exact does_find B o a c fs m t root n k A fr q N cp w S s H cap h hf hk hop
  · exact does_take B o a c fs m t root n k A fr q N cp w S s H cap h hf hk
  · exact does_get B o a c fs m t root n k A fr q N cp w S s H cap h hf hk hop
  · by_cases hN : N < 0 ∨ (s.hold.length : Int) ≤ N
    · exact does_giveNo B o a c fs m t root n k A fr q N cp w S s H cap h hf hk hN
    · obtain ⟨i, rfl⟩ : ∃ i : Nat, N = (i : Int) := ⟨N.toNat, by omega⟩
      have hi : i < s.hold.length := by omega
      exact does_give B o a c fs m t root n k i s.hold[i] A fr q cp w S s H cap h hf hk (List.getElem?_eq_getElem hi)
  · exact does_other B o a c fs m t root n k K A fr q N cp w S s H cap h hf hK

def BehindPost (w : World) (n len : Nat) (e : Ending) (w' : World) : Prop :=
  ∃ B o a c fs m t S s H cap, e = .returned (.tuple #[.pointer (some ⟨o, 0, none⟩), .bool true]) ∧ RunAt w' B o a c fs m t 0 S s H cap ∧ s.Fine 0 n len ∧ Below w.heap.size w w' ∧ w.heap.size ≤ B
theorem start_fine {n : Nat} (h1 : 1 ≤ n) (h2 : n ≤ 1024) : (Sta.mk ((fresh n).takeAt 0) (rootTab 0) [] 0 []).Fine 0 n 0 :=
  ⟨rootTab_good h1 h2, rootTab_root 0, (by unfold Sole; exact List.Pairwise.nil), rfl, ⟨Nat.le_refl _, Nat.le_refl _, Int.le_refl _, Int.le_refl _⟩, (fun f hf => by cases hf), (fun f hf => by cases hf), (fun f hf => by cases hf)⟩
theorem made_run {w : World} {n B o a c fs m t : Nat} {S : Nat → Prop} (hown : OwnAt w B o a c fs m t 0 0 S ((fresh n).takeAt 0) [] none 0 []) (hf : ∃ w1, w1.heap.size = B ∧ FilesAt w1 fs 8201 fileDat ∧ Below B w1 w) : RunAt w B o a c fs m t 0 S ⟨(fresh n).takeAt 0, rootTab 0, [], 0, []⟩ none 0 :=
  ⟨hown, OwnN.nil _ _, (fun b hb => by cases hb), hf⟩

set_option maxRecDepth 100000 in
set_option maxHeartbeats 4000000 in
theorem behind_any (n len cap : Nat) (A : Option Addr) (l : List Op) (w : World) (h1 : 1 ≤ n) (h2 : n ≤ 1024) (hl : OSl w w.heap.size A len cap l) (hlen : len ≤ 1000) (hdb : DB w) (hw0 : 0 < w.heap.size) :
    Calls Tryz.prog 27 #[.int .i64 (n : Int), .slice A len cap] w (BehindPost w n len) := by
  have hmade := made_any n w h1 h2 hdb hw0
  have HMADE := Lib.hid hmade
  have HL := Lib.hid hl
  clear hmade hl hdb
  go_enter Tryz.func27, Tryz.ntmps27
  go_wp2_with fail
  refine (HMADE.out).mono ?_
  rintro e w1 ⟨B, o, a, c, fs, m, t, S, rfl, hown, hb1, hB, hfl⟩
  have HRUN := Lib.hid (made_run hown hfl)
  have HB1 := Lib.hid hb1
  clear hown hfl hb1 HMADE
  go_wp2_with fail
  go_loopw [8] (fun i wr => ∃ (k : Nat) (S : Nat → Prop) (s : Sta) (H : Option Addr) (cp : Nat), i = .int .i64 (k : Int) ∧ k ≤ len ∧ RunAt wr B o a c fs m t 0 S s H cp ∧ s.Fine 0 n k ∧ Below w.heap.size w wr) (fun i _ => len - (intOf i).toNat)
  case atStart => exact ⟨0, S, _, none, 0, rfl, Nat.zero_le _, HRUN.out, start_fine h1 h2, HB1.out⟩
  case round =>
    obtain ⟨k, S, s, H, cp, rfl, hk, hrun, hfine, hbel⟩ := hrel
    have HR := Lib.hid hrun
    have HBE := Lib.hid hbel
    clear hrun hbel
    by_cases hlt : k < len
    · obtain ⟨x, hx⟩ : ∃ x, l[k]? = some x := ⟨l[k]'(by rw [HL.out.len]; exact hlt), List.getElem?_eq_getElem _⟩
      obtain ⟨b, off, rfl, hbw, hat⟩ := HL.out.at_ k x hx
      have hok := HL.out.ok x (List.mem_of_getElem? hx)
      have hat2 := hat.below HBE.out hbw
      obtain ⟨c0, c1, c2, c3, c4, c5⟩ := hat2
      have HOK := Lib.hid hok
      clear hat hx hok
      obtain ⟨K, AA, fr, q, cpy, N⟩ := x
      simp only at c0 c1 c2 c3 c4 c5
      by_cases h7 : K = 7
      · subst h7
        go_wp2_with fail
        go_roundw
        case rel => exact ⟨k + 1, S, s, H, cp, by go_num, by omega, HR.out, ⟨hfine.good, hfine.root, hfine.sole, hfine.size, ⟨by have := hfine.few; omega, by have := hfine.few; omega, by have := hfine.few; omega, by have := hfine.few; omega⟩, hfine.low, hfine.slow, hfine.keys⟩, HBE.out⟩
        case measure => (simp [intOf]; omega)
      · have hdo := does_any B o a c fs m t 0 n k ⟨K, AA, fr, q, cpy, N⟩ wr S s H cp HR.out hfine (by omega) HOK.out h7
        have hdo' : Calls Tryz.prog 11 #[.pointer (some ⟨o, 0, none⟩), .agg #[.int .i64 K, .int .u64 AA, .int .i64 fr, .int .u8 q, .bool cpy, .int .i64 N]] wr (DoesPost wr B o a c fs m t 0 S H ⟨K, AA, fr, q, cpy, N⟩ s) := hdo
        have HDO := Lib.hid hdo'
        have k7 : (K != 7) = true := by rw [bne_iff_ne]; exact h7
        clear hdo hdo' h7
        go_wp2_with (first
          | (go_at_call 11; refine (HDO.out).mono ?_; rintro e w2 ⟨y, s', S', H', cap', rfl, hrun2, hb2, hres⟩; have HR2 := Lib.hid hrun2; have HB2 := Lib.hid (HR.out.belowOf hb2); have HRES := Lib.hid hres; clear hrun2 hb2 hres)
          | fail)
        go_roundw
        case rel => exact ⟨k + 1, S', s', H', cap', by go_num, by omega, HR2.out, hfine.step HOK.out HRES.out, HBE.out.trans (HB2.out.mono hB)⟩
        case measure => (simp [intOf]; omega)
    · obtain rfl : k = len := by omega
      go_wp2_with fail
      go_ret2
      exact ⟨B, o, a, c, fs, m, t, S, s, H, cp, rfl, HR.out, hfine, HBE.out, hB⟩

end Go.Proofs.YtmkgdgfbdmjeeaaGreatDoor
