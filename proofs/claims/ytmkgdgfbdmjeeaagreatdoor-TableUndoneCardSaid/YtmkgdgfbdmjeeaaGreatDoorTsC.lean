/- What is done with a table: does, Map, Unmap, Set, Find. -/
import Derived.Test.YtmkgdgfbdmjeeaaGreatDoorTsB
import Derived.Test.YtmkgdgfbdmjeeaaGreatDoorLwA
import Derived.Test.YtmkgdgfbdmjeeaaGreatDoorVgA
import Derived.StillTailTactics
import Derived.Deep.RegionHeld3
namespace Go.Proofs.YtmkgdgfbdmjeeaaGreatDoor
open Go.RowKit Go.Sort
set_option linter.unusedSimpArgs false
set_option linter.unusedVariables false

/-- All of a table over its cache and files, in memory. -/
structure RunAt (w : World) (B o a c fs m t root : Nat) (S : Nat → Prop) (s : Sta) (H : Option Addr) (cap : Nat) : Prop where
  own : OwnAt w B o a c fs m t root s.clock S s.p s.L H cap s.hold
  row : OwnN w B H cap s.hold
  rowNo : ∀ b, H = some ⟨b, 0, none⟩ → ¬ S b ∧ b ≠ o ∧ b ≠ c ∧ b ≠ m ∧ b ≠ t
  files : ∃ w1, w1.heap.size = B ∧ FilesAt w1 fs 8201 fileDat ∧ Below B w1 w
theorem RunAt.base {w : World} {B o a c fs m t root : Nat} {S : Nat → Prop} {s : Sta} {H : Option Addr} {cap : Nat} (h : RunAt w B o a c fs m t root S s H cap) : B ≤ w.heap.size := by
  obtain ⟨w1, h1, _, h2⟩ := h.files
  rw [← h1]
  exact h2.size
theorem RunAt.lts {w : World} {B o a c fs m t root : Nat} {S : Nat → Prop} {s : Sta} {H : Option Addr} {cap : Nat} (h : RunAt w B o a c fs m t root S s H cap) : o < w.heap.size ∧ t < w.heap.size ∧ c < w.heap.size ∧ m < w.heap.size ∧ ∀ b, S b → b < w.heap.size :=
  ⟨(Array.getElem?_eq_some_iff.1 h.own.self).1, (Array.getElem?_eq_some_iff.1 h.own.tab).1, h.own.cache.lts.1, h.own.cache.lts.2.1, h.own.cache.pool.low⟩
theorem OwnN.lt {w : World} {base : Nat} {A : Option Addr} {cap : Nat} {l : List Nat} (h : OwnN w base A cap l) : ∀ b, A = some ⟨b, 0, none⟩ → base ≤ b ∧ b < w.heap.size := fun b hb => by
  subst hb
  exact ⟨h.formS.1, h.formS.2.1⟩
/-- The blocks that are a table's, its cache's and its row's own. -/
def Runs (S : Nat → Prop) (o c m t : Nat) (H : Option Addr) : Nat → Prop := fun b => S b ∨ b = o ∨ b = c ∨ b = m ∨ b = t ∨ H = some ⟨b, 0, none⟩
theorem Mod.old {X : Nat → Prop} {w w' : World} (h : Mod (fun b => X b ∨ w.heap.size ≤ b) w w') : Mod X w w' :=
  ⟨h.os, h.tape, h.output, h.size, fun b hb hn => h.block b hb (fun e => e.elim hn (by omega))⟩
theorem RunAt.belowOf {w w' : World} {B o a c fs m t root : Nat} {S : Nat → Prop} {s : Sta} {H : Option Addr} {cap : Nat} (h : RunAt w B o a c fs m t root S s H cap) (hm : Mod (Runs S o c m t H) w w') : Below B w w' :=
  hm.below (fun b hb => by
    have hl := h.own.lows
    rcases hb with e | e | e | e | e | e
    · exact h.own.low b e
    · omega
    · omega
    · omega
    · omega
    · exact (h.row.lt b e).1) h.base
/-- The pool, the slots and boxes of the call's own are turned. -/
theorem RunAt.turn {w w0 w1 w2 : World} {B o a c fs m t root : Nat} {S S' : Nat → Prop} {s : Sta} {H : Option Addr} {cap : Nat} {clock' : Int} {p' : Pool} {L' : List Slot} (h : RunAt w B o a c fs m t root S s H cap) (hb0 : Below w.heap.size w w0) (hC : CacheAt w1 S' c a fs m clock' p' L')
    (hm : Mod (fun b => S b ∨ b = m ∨ b = c) w0 w1) (ho : Out S S' w0) (hm2 : Mod (fun b => w.heap.size ≤ b ∧ b < w0.heap.size) w1 w2) (T' : Tab) : RunAt w2 B o a c fs m t root S' ⟨p', T', L', clock', s.hold⟩ H cap ∧ Mod (Runs S o c m t H) w w2 := by
  obtain ⟨l1, l2, l3, l4, l5⟩ := h.lts
  have hB := h.base
  have hz0 := hb0.size
  have hz1 := hm.size
  have hz2 := hm2.size
  have key : ∀ b, b < w.heap.size → ¬ S b → b ≠ m → b ≠ c → w2.heap[b]? = w.heap[b]? := fun b hb h1 h2 h3 =>
    (hm2.block b (by omega) (by omega)).trans ((hm.block b (by omega) (fun e => e.elim h1 fun e => e.elim h2 h3)).trans (hb0.block b hb))
  have hbel : Below B w w2 := ⟨hm2.os.trans (hm.os.trans hb0.os), hm2.tape.trans (hm.tape.trans hb0.tape), hm2.output.trans (hm.output.trans hb0.output), by omega, fun b hb => key b (by omega) (fun e => by have := h.own.low b e; omega) (by have := h.own.lows; omega) (by have := h.own.lows; omega)⟩
  have hO := h.own
  obtain ⟨wf, hf1, hf2, hf3⟩ := h.files
  have hf4 : Below B wf w2 := hf3.trans hbel
  have hS' : ∀ b, S' b → S b ∨ w0.heap.size ≤ b := ho
  refine ⟨⟨⟨(key o l1 hO.noS.1 hO.ne.2.1 hO.ne.1).trans hO.self, hC.mod hm2 (fun b hb e => (hS' b hb).elim (fun e2 => by have := l5 b e2; omega) (fun e2 => by omega)) (fun e => by have := hO.cache.pool.pos; omega) (by omega) (by omega), (key t l2 hO.noS.2 hO.ne.2.2.2.1 hO.ne.2.2.2.2).trans hO.tab, hf2.below hf1 hf4, fun b hb => (hS' b hb).elim (hO.low b) (fun e => by omega), hO.lows, ⟨fun e => (hS' o e).elim hO.noS.1 (by omega), fun e => (hS' t e).elim hO.noS.2 (by omega)⟩, hO.ne⟩, h.row.same fun g hg => ?_, fun b hb => ?_, ⟨wf, hf1, hf2, hf4⟩⟩, ⟨hbel.os, hbel.tape, hbel.output, hbel.size, fun b hb hn => key b hb (fun e => hn (.inl e)) (fun e => hn (.inr (.inr (.inr (.inl e))))) (fun e => hn (.inr (.inr (.inl e))))⟩⟩
  · obtain ⟨n1, n2, n3, n4, n5⟩ := h.rowNo g hg
    exact key g (h.row.lt g hg).2 n1 n4 n3
  · obtain ⟨n1, n2, n3, n4, n5⟩ := h.rowNo b hb
    have := (h.row.lt b hb).2
    exact ⟨fun e => (hS' b e).elim n1 (by omega), n2, n3, n4, n5⟩

def Told.val (x : Told) : Value := .agg #[.int .i64 x.frame, .int .i64 (x.leaf.frame : Int), .int .u8 (x.leaf.prot : Int), .bool x.leaf.copy, .int .i64 x.e]
def DoesPost (w : World) (B o a c fs m t root : Nat) (S : Nat → Prop) (H : Option Addr) (op : Op) (s : Sta) (e : Ending) (w' : World) : Prop :=
  ∃ x s' S' H' cap', e = .returned x.val ∧ RunAt w' B o a c fs m t root S' s' H' cap' ∧ Mod (Runs S o c m t H) w w' ∧ DoRes op s x s'
theorem five_set {w : World} {b : Nat} {x0 x1 x2 x3 x4 y : Value} {T : TypeId} (h : w.heap[b]? = some (.cells #[x0, x1, x2, x3, x4] T (0, 0))) : (w.setCell ⟨b, 4, none⟩ y).heap[b]? = some (.cells #[x0, x1, x2, x3, y] T (0, 0)) := by
  simpa using Joins.block_setCell (i := 4) h y
theorem cntTo_le (q : Nat → Bool) (n : Nat) : cntTo q n ≤ n := by
  induction n with
  | zero => simp [cntTo]
  | succ n ih => unfold cntTo; split <;> omega
theorem Sta.Fine.cap {s : Sta} {root n k : Nat} (h : s.Fine root n k) (hk : k ≤ 100000) : ∀ f, f < s.p.n → s.p.cnt f + 1 < 1000000000000 := fun f hf => by
  have h1 := h.good.cnt f hf
  have h2 : nodeCnt s.T f ≤ 1 := by unfold nodeCnt; split <;> omega
  have h3 : leafCnt s.T f ≤ pagesN := cntTo_le _ _
  have h4 : slotN s.L f ≤ s.L.length := List.countP_le_length
  have h5 : cntH s.hold f ≤ s.hold.length := List.count_le_length
  have h6 := h.few
  unfold held at h1
  unfold pagesN at h3
  omega

theorem Mod.set {X : Nat → Prop} {w w1 : World} {b i : Nat} {v : Value} (h : Mod X w w1) (hb : X b) : Mod X w (w1.setCell ⟨b, i, none⟩ v) := h.trans (Out.refl _ _) (mod_set hb i v)
theorem MapDo.does {s : Sta} {A fr q N r : Int} {cp : Bool} {p' : Pool} {T' : Tab} {L' : List Slot} (h : MapDo s.p s.T s.L (cntH s.hold) A fr q cp r p' T' L') : DoRes ⟨0, A, fr, q, cp, N⟩ s (.err r) ⟨p', T', L', s.clock, s.hold⟩ := by
  rcases h with ⟨h1, rfl, rfl, rfl, rfl⟩ | ⟨h1, h2, rfl, rfl, rfl, rfl⟩ | ⟨h1, h2, h3⟩
  · exact .mapBad rfl h1
  · exact .mapThere rfl h1 h2
  · exact .mapGo r p' T' L' rfl h1 h2 h3
theorem DoRes.setE {o : Op} {s : Sta} {r : Int} {p' : Pool} {T' : Tab} (h : o.kind = 2) (he : (r, p', T') = setRes s.p s.T o.addr o.frame o.prot o.copy) : DoRes o s (.err r) ⟨p', T', s.L, s.clock, s.hold⟩ := by
  have := DoRes.set (s := s) h
  rw [← he] at this
  exact this
/-- A fresh told in a box. -/
def BoxAt (w1 : World) (b : Nat) : Prop :=
  w1.cell? ⟨b, 0, none⟩ = some (.int .i64 0) ∧ w1.cell? ⟨b, 1, none⟩ = some (.int .i64 0) ∧ w1.cell? ⟨b, 2, none⟩ = some (.int .u8 0) ∧ w1.cell? ⟨b, 3, none⟩ = some (.bool false) ∧ w1.cell? ⟨b, 4, none⟩ = some (.int .i64 0) ∧
  w1.frozen? ⟨b, 0, none⟩ = false ∧ w1.frozen? ⟨b, 1, none⟩ = false ∧ w1.frozen? ⟨b, 2, none⟩ = false ∧ w1.frozen? ⟨b, 3, none⟩ = false ∧ w1.frozen? ⟨b, 4, none⟩ = false ∧ b < w1.heap.size
theorem told_box {w0 w1 : World} {X : Nat → Prop} {b : Nat} {T : TypeId} (h : w0.heap[b]? = some (.cells #[.int .i64 0, .int .i64 0, .int .u8 0, .bool false, .int .i64 0] T (0, 0))) (hm : Mod X w0 w1) (hX : ¬ X b) : BoxAt w1 b := by
  have h1 := (hm.block b (Array.getElem?_eq_some_iff.1 h).1 hX).trans h
  exact ⟨one_block h1 0, one_block h1 1, one_block h1 2, one_block h1 3, one_block h1 4, one_free h1 0, one_free h1 1, one_free h1 2, one_free h1 3, one_free h1 4, (Array.getElem?_eq_some_iff.1 h1).1⟩
/-- The files' page, asked for. -/
theorem get_one (c a fs m : Nat) (page clock : Int) (w : World) (S : Nat → Prop) (p : Pool) (L : List Slot) (h : CacheAt w S c a fs m clock p L) (hF : FilesAt w fs 8201 fileDat) (hck : 0 ≤ clock ∧ clock < 1000000) :
    Calls Tryz.prog 46 #[.pointer (some ⟨c, 0, none⟩), .int .i64 1, .int .i64 page] w (GetPost w S c a fs m 1 page 0 (fileK page) (fileD page) clock p L) := by
  by_cases hbad : page < 0 ∨ 16 ≤ page
  · exact get_bad c a fs m _ 1 page 0 clock _ w S p L h hbad
  · obtain ⟨off, hoff⟩ : ∃ off : Nat, (off : Int) = page * 4096 := ⟨(page * 4096).toNat, by omega⟩
    obtain ⟨d, x, g, nb, c2, cd, hF⟩ := hF
    have hto : (page * 4096).toNat = off := by omega
    have hd : ∀ i, fileD page i < 256 := fun i => by
      unfold fileD fileK
      rw [hto]
      split
      · unfold fileDat; omega
      · omega
    have hrd : ReadIs w fs 1 (page * 4096) 0 (fileK page) (fileD page) := by
      rw [← hoff]
      refine (fread_one d x g fs nb c2 cd 8201 off fileDat w hF (by omega) (by omega)).mono ?_
      rintro e w1 ⟨A, k, cap, rfl, hk, hA, hAn, hb⟩
      have hk' : k = fileK page := by rw [hk]; unfold fileK; rw [hto]
      subst hk'
      refine ⟨some A, cap, rfl, fun h0 => ?_, fun ad e h0 => by injection e with e; subst e; exact hAn h0, hb⟩
      obtain ⟨ad, e, hc⟩ := hA h0
      refine ⟨ad, e, fun j hj => ?_⟩
      rw [hc j hj]
      unfold fileD
      rw [if_pos hj, hto]
    cases hs : L.find? (Slot.at 1 page) with
    | some sl => exact get_hit c a fs m _ 1 page 0 clock _ w S p L h (by omega) (by omega) (by decide) hrd hck sl hs
    | none => exact get_new c a fs m _ 1 page 0 clock _ w S p L h (by omega) (by omega) (by decide) hrd hd (by unfold fileK; omega) hck hs

end Go.Proofs.YtmkgdgfbdmjeeaaGreatDoor
