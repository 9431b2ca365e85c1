/- The cache's slots: a map in memory, whose keys and elements are pairs of ints. The cache's slots: a store, and ranging over them. -/
import Derived.Test.YtkkmcnngpahfaaaGreatDoorTfZ
import Derived.DeepKeys4
import Derived.Maps.RangeWalk
import Derived.Maps.OwnOps

namespace Go.Proofs.YtkkmcnngpahfaaaGreatDoor
open Go.RowKit Go.Maps Go.WideMaps
open Go.ChangeMaps (setBlock heap_setBlock_same heap_setBlock_other)
open Go.MapKept (Stamped)
set_option linter.unusedSimpArgs false
set_option linter.unusedVariables false

structure Slot where
  ino : Int
  page : Int
  frame : Nat
  asked : Int
deriving DecidableEq
def keyV (i p : Int) : Value := .agg #[.int .i64 i, .int .i64 p]
def heldV (f a : Int) : Value := .agg #[.int .i64 f, .int .i64 a]
def Slot.at (i p : Int) (s : Slot) : Bool := s.ino == i && s.page == p
def Slot.kv (s : Slot) : Value × Value := (keyV s.ino s.page, heldV (s.frame : Int) s.asked)
theorem keyV_inj {i p j q : Int} : keyV i p = keyV j q ↔ i = j ∧ p = q := by
  unfold keyV
  simp
theorem Slot.at_iff {i p : Int} {s : Slot} : s.at i p = true ↔ s.ino = i ∧ s.page = p := by
  unfold Slot.at
  simp

theorem skey_laid : laidOutB Tryz.prog = true := by kernel_rfl
theorem skey_row : (177 : TypeId) < Tryz.prog.types.size := of_decide_eq_true (by kernel_rfl)
theorem skey_deep : Tryz.prog.keyTypeAt 2 177 = true := by kernel_rfl
theorem skey_law : Keyed Tryz.prog 177 := Keyed.of_law (deep_law_laid skey_laid (m := 2) (by omega) skey_row skey_deep (by rw [Tryz.underlying177]))
theorem skey_type : Tryz.prog.keyType 177 = true := by kernel_rfl
theorem skey_size : Tryz.prog.cellsOf 177 = 2 := by kernel_rfl
theorem int_size : Tryz.prog.cellsOf 3 = 1 := by kernel_rfl
theorem types_some : ∃ n, Tryz.prog.types.size = n + 2 := ⟨Tryz.prog.types.size - 2, (Nat.sub_add_cancel (of_decide_eq_true (by kernel_rfl) : 2 ≤ Tryz.prog.types.size)).symm⟩
theorem skey_of {i p : Int} (hi : (Lit.int .i64 i).wf = true) (hp : (Lit.int .i64 p).wf = true) : ∃ l, keyOf Tryz.prog 177 (keyV i p) = some l := by
  obtain ⟨n, hn⟩ := types_some
  have hf : (keyV i p).formed Tryz.prog 177 = true := by
    unfold keyV
    simp [Value.formed, Tryz.underlying177, skey_size]
  unfold keyOf
  rw [Tryz.underlying177]
  simp only [skey_type, hf, Bool.and_self, if_true, hn]
  refine ⟨.string (keyBytes [.int .i64 i, .int .i64 p]), ?_⟩
  rw [show n + 2 + 1 = (n + 1 + 1) + 1 from rfl]
  have e3 : Tryz.prog.keyLits (n + 1 + 1) 3 [.int .i64 i] = some [.int .i64 i] := by
    unfold Program.keyLits
    rw [Tryz.underlying3]
    simp [hi]
  have e4 : Tryz.prog.keyLits (n + 1 + 1) 3 [.int .i64 p] = some [.int .i64 p] := by
    unfold Program.keyLits
    rw [Tryz.underlying3]
    simp [hp]
  have : Tryz.prog.keyLits (n + 1 + 1 + 1) 177 (keyV i p).cells.toList = some [.int .i64 i, .int .i64 p] := by
    unfold Program.keyLits
    rw [Tryz.underlying177]
    simp [keyV, Value.cells, skey_size, int_size, e3, e4]
  rw [this]
  rfl

/-- The row of slots in block m. -/
structure SlotsIs (w : World) (m : Nat) (es : Array MapEntry) (clk : Nat) (L : List Slot) : Prop where
  block : w.heap[m]? = some (.map es clk)
  stamped : Stamped es clk
  is : es.toList.map (fun e => (e.key, e.val)) = L.map Slot.kv
  wf : ∀ s ∈ L, (Lit.int .i64 s.ino).wf = true ∧ (Lit.int .i64 s.page).wf = true
def SlotsAt (w : World) (m : Nat) (L : List Slot) : Prop := ∃ es clk, SlotsIs w m es clk L

theorem SlotsAt.same {w w' : World} {m : Nat} {L : List Slot} (h : SlotsAt w m L) (hb : w'.heap[m]? = w.heap[m]?) : SlotsAt w' m L := by
  obtain ⟨es, clk, h1⟩ := h
  exact ⟨es, clk, hb.trans h1.block, h1.stamped, h1.is, h1.wf⟩
theorem SlotsAt.lt {w : World} {m : Nat} {L : List Slot} (h : SlotsAt w m L) : m < w.heap.size := by
  obtain ⟨es, clk, h1⟩ := h
  exact (Array.getElem?_eq_some_iff.1 h1.block).1
theorem SlotsIs.keys {w : World} {m : Nat} {es : Array MapEntry} {clk : Nat} {L : List Slot} (h : SlotsIs w m es clk L) : ∀ e ∈ es.toList, ∃ s ∈ L, e.key = keyV s.ino s.page ∧ e.val = heldV s.frame s.asked := fun e he => by
  have h1 : (e.key, e.val) ∈ L.map Slot.kv := by
    rw [← h.is]
    exact List.mem_map.2 ⟨e, he, rfl⟩
  obtain ⟨s, hs, h2⟩ := List.mem_map.1 h1
  unfold Slot.kv at h2
  injection h2 with h3 h4
  exact ⟨s, hs, h3.symm, h4.symm⟩
theorem SlotsIs.keyOf {w : World} {m : Nat} {es : Array MapEntry} {clk : Nat} {L : List Slot} (h : SlotsIs w m es clk L) : ∀ e ∈ es.toList, ∃ l, Go.keyOf Tryz.prog 177 e.key = some l := fun e he => by
  obtain ⟨s, hs, h1, _⟩ := h.keys e he
  rw [h1]
  exact skey_of (h.wf s hs).1 (h.wf s hs).2
theorem SlotsIs.at {w : World} {m : Nat} {es : Array MapEntry} {clk : Nat} {L : List Slot} (h : SlotsIs w m es clk L) (j : Nat) : (es.toList[j]?).map (fun e => (e.key, e.val)) = (L[j]?).map Slot.kv := by
  have := congrArg (fun l => l[j]?) h.is
  simpa using this
/-- No two slots are of the same page. -/
def Sole (L : List Slot) : Prop := L.Pairwise fun a b => ¬ (a.ino = b.ino ∧ a.page = b.page)
theorem SlotsIs.sole {w : World} {m : Nat} {es : Array MapEntry} {clk : Nat} {L : List Slot} (h : SlotsIs w m es clk L) : Sole L := by
  have h1 := h.stamped.2.2
  have e1 : es.toList.map (·.key) = L.map fun s => keyV s.ino s.page := by
    have := congrArg (List.map Prod.fst) h.is
    simpa [Slot.kv, Function.comp_def] using this
  rw [e1, List.Nodup, List.pairwise_map] at h1
  exact h1.imp fun hne e => hne (by rw [keyV_inj]; exact e)
theorem find_of_sole {L : List Slot} (h : Sole L) {s : Slot} (hs : s ∈ L) : L.find? (Slot.at s.ino s.page) = some s := by
  induction L with
  | nil => cases hs
  | cons x l ih =>
    have hp := List.pairwise_cons.1 h
    rcases List.mem_cons.1 hs with rfl | h1
    · rw [List.find?_cons_of_pos (Slot.at_iff.2 ⟨rfl, rfl⟩)]
    · rw [List.find?_cons_of_neg (fun e => hp.1 s h1 (Slot.at_iff.1 e)), ih hp.2 h1]

/-- A look-up among the slots. -/
theorem SlotsIs.look {w : World} {m : Nat} {es : Array MapEntry} {clk : Nat} {L : List Slot} (h : SlotsIs w m es clk L) {i p : Int} (hi : (Lit.int .i64 i).wf = true) (hp : (Lit.int .i64 p).wf = true) (c : Bool) :
    (Instr.lookup 155 (.map (some m)) (keyV i p) c).run Tryz.prog w =
      .ok (match L.find? (Slot.at i p) with | some s => if c then .tuple #[heldV s.frame s.asked, .bool true] else heldV s.frame s.asked | none => if c then .tuple #[heldV 0 0, .bool false] else heldV 0 0) w := by
  obtain ⟨l, hl⟩ := skey_of hi hp
  have hz : (zeroValue 181).run Tryz.prog w = .ok (heldV 0 0) w := by kernel_rfl
  rcases skey_law.find w hl es.toList h.keyOf with ⟨h1, h2⟩ | ⟨j, e0, h1, h2, h3⟩
  · have hf : L.find? (Slot.at i p) = none := by
      rw [List.find?_eq_none]
      intro s hs hs2
      obtain ⟨rfl, rfl⟩ := Slot.at_iff.1 hs2
      have : s.kv ∈ es.toList.map (fun e => (e.key, e.val)) := by
        rw [h.is]
        exact List.mem_map.2 ⟨s, hs, rfl⟩
      obtain ⟨e, he, h3⟩ := List.mem_map.1 this
      injection h3 with h3 h4
      exact h2 e he h3
    rw [hf]
    simp [Instr.lookup, run_underlying Tryz.underlying155, MapKept.run_getObj_map h.block, skey_law.check w _ hl, h1, hz, Result.andThen]
  · have hj := h.at j
    rw [h2] at hj
    obtain ⟨s, hs, h4⟩ : ∃ s, L[j]? = some s ∧ (e0.key, e0.val) = s.kv := by
      cases hL : L[j]? with
      | none => rw [hL] at hj; cases hj
      | some s => rw [hL] at hj; exact ⟨s, rfl, by simpa using hj⟩
    have h5 : e0.key = keyV s.ino s.page := congrArg Prod.fst h4
    have h6 : e0.val = heldV s.frame s.asked := congrArg Prod.snd h4
    clear h4
    rw [h3, keyV_inj] at h5
    obtain ⟨rfl, rfl⟩ := h5
    have hfs := find_of_sole h.sole (List.mem_of_getElem? hs)
    generalize L.find? (Slot.at s.ino s.page) = o at hfs ⊢
    subst hfs
    show _ = Result.ok (if c then .tuple #[heldV s.frame s.asked, .bool true] else heldV s.frame s.asked) w
    rw [← h6]
    simp [Instr.lookup, run_underlying Tryz.underlying155, MapKept.run_getObj_map h.block, skey_law.check w _ hl, h1, Result.andThen]

theorem erase_filter {L : List Slot} (h : Sole L) {j : Nat} {s : Slot} (hs : L[j]? = some s) : L.eraseIdx j = L.filter fun x => !Slot.at s.ino s.page x := by
  induction L generalizing j with
  | nil => cases hs
  | cons x l ih =>
    have hp := List.pairwise_cons.1 h
    cases j with
    | zero =>
      simp only [List.getElem?_cons_zero, Option.some.injEq] at hs
      subst hs
      rw [List.eraseIdx_cons_zero, List.filter_cons_of_neg (by simp [Slot.at])]
      exact (List.filter_eq_self.2 fun y hy => by
        have := hp.1 y hy
        cases hc : Slot.at x.ino x.page y with
        | false => rfl
        | true =>
          have := Slot.at_iff.1 hc
          exact absurd ⟨this.1.symm, this.2.symm⟩ (hp.1 y hy)).symm
    | succ j =>
      simp only [List.getElem?_cons_succ] at hs
      have hm := List.mem_of_getElem? hs
      rw [List.eraseIdx_cons_succ, ih hp.2 hs, List.filter_cons_of_pos]
      cases hc : Slot.at s.ino s.page x with
      | false => rfl
      | true => exact absurd (Slot.at_iff.1 hc) (hp.1 s hm)

/-- A slot goes. -/
theorem SlotsIs.drop {w : World} {m : Nat} {es : Array MapEntry} {clk : Nat} {L : List Slot} (h : SlotsIs w m es clk L) {s : Slot} (hs : s ∈ L) (ty : TypeId) :
    ∃ es', (Builtin.delete_ #[155, 177] ty #[.map (some m), keyV s.ino s.page]).run Tryz.prog w = .ok (.tuple #[]) (setBlock w m (.map es' clk)) ∧
      SlotsIs (setBlock w m (.map es' clk)) m es' clk (L.filter fun x => !Slot.at s.ino s.page x) := by
  obtain ⟨l, hl⟩ := skey_of (h.wf s hs).1 (h.wf s hs).2
  rcases skey_law.find w hl es.toList h.keyOf with ⟨h1, h2⟩ | ⟨j, e0, h1, h2, h3⟩
  · exfalso
    have : s.kv ∈ es.toList.map (fun e => (e.key, e.val)) := by
      rw [h.is]
      exact List.mem_map.2 ⟨s, hs, rfl⟩
    obtain ⟨e, he, h3⟩ := List.mem_map.1 this
    injection h3 with h3 h4
    exact h2 e he h3
  · have hj := h.at j
    rw [h2] at hj
    obtain ⟨s', hs', h4⟩ : ∃ s', L[j]? = some s' ∧ (e0.key, e0.val) = s'.kv := by
      cases hL : L[j]? with
      | none => rw [hL] at hj; cases hj
      | some s' => rw [hL] at hj; exact ⟨s', rfl, by simpa using hj⟩
    have h5 : e0.key = keyV s'.ino s'.page := congrArg Prod.fst h4
    rw [h3, keyV_inj] at h5
    have hjl : j < es.toList.length := (List.getElem?_eq_some_iff.1 h2).1
    have hjs : j < es.size := by simpa using hjl
    have hsub : (es.eraseIdxIfInBounds j).toList = es.toList.eraseIdx j := by
      unfold Array.eraseIdxIfInBounds
      rw [dif_pos hjs]
      simp
    refine ⟨es.eraseIdxIfInBounds j, ?_, heap_setBlock_same h.block _, MapKept.stamped_erase h.stamped j, ?_, fun x hx => h.wf x (List.mem_filter.1 hx).1⟩
    · simp [Builtin.delete_, run_underlying Tryz.underlying155, MapKept.run_getObj_map h.block, skey_law.check w _ hl, h1, MapKept.run_setObj_map _ h.block, Result.andThen, setBlock]
    · have e1 := erase_filter h.sole hs'
      rw [← h5.1, ← h5.2] at e1
      rw [hsub, ← e1, Go.ChangeMaps.map_eraseIdx, h.is, Go.ChangeMaps.map_eraseIdx]

end Go.Proofs.YtkkmcnngpahfaaaGreatDoor

namespace Go.Proofs.YtkkmcnngpahfaaaGreatDoor
open Go.RowKit Go.Maps Go.WideMaps
open Go.ChangeMaps (setBlock heap_setBlock_same heap_setBlock_other)
open Go.MapKept (Stamped)
set_option linter.unusedSimpArgs false
set_option linter.unusedVariables false

theorem sb_same {w : World} {b : Nat} {o : Obj} (h : b < w.heap.size) : (setBlock w b o).heap[b]? = some o := by simp [setBlock, h]
theorem sb_other {w : World} {b j : Nat} {o : Obj} (h : j ≠ b) : (setBlock w b o).heap[j]? = w.heap[j]? := by simp [setBlock, Array.getElem?_setIfInBounds, Ne.symm h]
theorem setBlock_mod {w : World} {b : Nat} {o : Obj} : Mod (fun j => j = b) w (setBlock w b o) := ⟨rfl, rfl, rfl, by simp [setBlock], fun j _ hj => sb_other hj⟩
theorem setBlock_size {w : World} {b : Nat} {o : Obj} : (setBlock w b o).heap.size = w.heap.size := by simp [setBlock]

def slPut (L : List Slot) (s : Slot) : List Slot := if L.any (Slot.at s.ino s.page) = true then L.map fun x => if Slot.at s.ino s.page x = true then s else x else L ++ [s]
theorem set_map {L : List Slot} (h : Sole L) {j : Nat} {s' s : Slot} (hs : L[j]? = some s') (he : s'.ino = s.ino ∧ s'.page = s.page) : L.set j s = L.map fun x => if Slot.at s.ino s.page x = true then s else x := by
  induction L generalizing j with
  | nil => cases hs
  | cons x l ih =>
    have hp := List.pairwise_cons.1 h
    cases j with
    | zero =>
      simp only [List.getElem?_cons_zero, Option.some.injEq] at hs
      subst hs
      rw [List.set_cons_zero, List.map_cons, if_pos (Slot.at_iff.2 he)]
      congr 1
      refine (List.map_congr_left fun y hy => ?_).trans (List.map_id l) |>.symm
      rw [if_neg]
      · rfl
      · intro hc
        have := Slot.at_iff.1 hc
        exact hp.1 y hy ⟨he.1.trans this.1.symm, he.2.trans this.2.symm⟩
    | succ j =>
      simp only [List.getElem?_cons_succ] at hs
      have hm := List.mem_of_getElem? hs
      rw [List.set_cons_succ, List.map_cons, ih hp.2 hs, if_neg]
      intro hc
      have := Slot.at_iff.1 hc
      exact hp.1 s' hm ⟨this.1.trans he.1.symm, this.2.trans he.2.symm⟩

/-- A slot is laid. -/
theorem SlotsIs.put {w : World} {m : Nat} {es : Array MapEntry} {clk : Nat} {L : List Slot} (h : SlotsIs w m es clk L) {s : Slot} (hi : (Lit.int .i64 s.ino).wf = true) (hp : (Lit.int .i64 s.page).wf = true) :
    ∃ es' clk', (Instr.mapUpdate 155 (.map (some m)) (keyV s.ino s.page) (heldV s.frame s.asked)).run Tryz.prog w = .ok () (setBlock w m (.map es' clk')) ∧ SlotsIs (setBlock w m (.map es' clk')) m es' clk' (slPut L s) := by
  obtain ⟨l, hl⟩ := skey_of hi hp
  rcases skey_law.find w hl es.toList h.keyOf with ⟨h1, h2⟩ | ⟨j, e0, h1, h2, h3⟩
  · have hno : L.any (Slot.at s.ino s.page) = false := by
      rw [List.any_eq_false]
      intro x hx hx2
      have hx3 := Slot.at_iff.1 hx2
      have : x.kv ∈ es.toList.map (fun e => (e.key, e.val)) := by
        rw [h.is]
        exact List.mem_map.2 ⟨x, hx, rfl⟩
      obtain ⟨e, he, h3⟩ := List.mem_map.1 this
      refine h2 e he ?_
      rw [show e.key = keyV x.ino x.page from congrArg Prod.fst h3, hx3.1, hx3.2]
    refine ⟨es.push ⟨keyV s.ino s.page, heldV s.frame s.asked, clk⟩, clk + 1, ?_, heap_setBlock_same h.block _, MapKept.stamped_push h.stamped h2, ?_, fun x hx => ?_⟩
    · simp [Instr.mapUpdate, run_underlying Tryz.underlying155, MapKept.run_getObj_map h.block, skey_law.check w false hl, h1, MapKept.run_setObj_map _ h.block, Result.andThen, setBlock]
    · unfold slPut
      rw [if_neg (by rw [hno]; decide), Array.toList_push, List.map_append, List.map_append, h.is]
      rfl
    · unfold slPut at hx
      rw [if_neg (by rw [hno]; decide)] at hx
      rcases List.mem_append.1 hx with h4 | h4
      · exact h.wf x h4
      · simp only [List.mem_singleton] at h4
        subst h4
        exact ⟨hi, hp⟩
  · have hj := h.at j
    rw [h2] at hj
    obtain ⟨s', hs', h4⟩ : ∃ s', L[j]? = some s' ∧ (e0.key, e0.val) = s'.kv := by
      cases hL : L[j]? with
      | none => rw [hL] at hj; cases hj
      | some s' => rw [hL] at hj; exact ⟨s', rfl, by simpa using hj⟩
    have h5 : e0.key = keyV s'.ino s'.page := congrArg Prod.fst h4
    rw [h3, keyV_inj] at h5
    have hyes : L.any (Slot.at s.ino s.page) = true := List.any_eq_true.2 ⟨s', List.mem_of_getElem? hs', Slot.at_iff.2 ⟨h5.1.symm, h5.2.symm⟩⟩
    have hej : es[j]? = some e0 := by simpa using h2
    have hlist : (es.modify j (fun e' => { e' with key := keyV s.ino s.page, val := heldV s.frame s.asked })).toList = es.toList.set j { e0 with key := keyV s.ino s.page, val := heldV s.frame s.asked } := by rw [Array.toList_modify, Go.ChangeMaps.modify_eq_set _ _ _ _ h2]
    refine ⟨es.modify j (fun e' => { e' with key := keyV s.ino s.page, val := heldV s.frame s.asked }), clk, ?_, heap_setBlock_same h.block _, MapKept.stamped_modify h.stamped _ _ (fun _ _ => rfl) (fun e' _ he' => by rw [hej] at he'; cases he'; exact h3.symm), ?_, fun x hx => ?_⟩
    · simp [Instr.mapUpdate, run_underlying Tryz.underlying155, MapKept.run_getObj_map h.block, skey_law.check w false hl, h1, hej, h3, skey_law.stays w hl, MapKept.run_setObj_map _ h.block, Result.andThen, setBlock]
    · unfold slPut
      rw [if_pos hyes, hlist, List.map_set, h.is, ← set_map h.sole hs' ⟨h5.1.symm, h5.2.symm⟩, List.map_set]
      rfl
    · unfold slPut at hx
      rw [if_pos hyes] at hx
      obtain ⟨y, hy, rfl⟩ := List.mem_map.1 hx
      split
      · exact ⟨hi, hp⟩
      · exact h.wf y hy

/-- A range over the slots under way: left are still to come. -/
structure RangeIs (w : World) (m r : Nat) (L left : List Slot) : Prop where
  is : ∃ es clk since seen c0, SlotsIs w m es clk L ∧ w.heap[r]? = some (.mapIter (some m) since seen c0) ∧ (∀ x ∈ es.toList, x.born < since) ∧ since ≤ c0 ∧ since ≤ clk ∧ (leftOf es seen).toList.map (fun e => (e.key, e.val)) = left.map Slot.kv
theorem RangeIs.same {w w' : World} {m r : Nat} {L left : List Slot} (h : RangeIs w m r L left) (hm : w'.heap[m]? = w.heap[m]?) (hr : w'.heap[r]? = w.heap[r]?) : RangeIs w' m r L left := by
  obtain ⟨es, clk, since, seen, c0, h1, h2, h3⟩ := h.is
  exact ⟨es, clk, since, seen, c0, ⟨hm.trans h1.block, h1.stamped, h1.is, h1.wf⟩, hr.trans h2, h3⟩
theorem RangeIs.lt {w : World} {m r : Nat} {L left : List Slot} (h : RangeIs w m r L left) : r < w.heap.size ∧ m < w.heap.size := by
  obtain ⟨es, clk, since, seen, c0, h1, h2, h3⟩ := h.is
  exact ⟨(Array.getElem?_eq_some_iff.1 h2).1, (Array.getElem?_eq_some_iff.1 h1.block).1⟩
theorem RangeIs.slots {w : World} {m r : Nat} {L left : List Slot} (h : RangeIs w m r L left) : SlotsAt w m L := by
  obtain ⟨es, clk, since, seen, c0, h1, h2, h3⟩ := h.is
  exact ⟨es, clk, h1⟩
/-- How many entries are still to come. -/
def leftN (w : World) (m r : Nat) : Nat :=
  match w.heap[m]?, w.heap[r]? with
  | some (.map es _), some (.mapIter _ _ seen _) => (leftOf es seen).size
  | _, _ => 0
theorem RangeIs.leftN {w : World} {m r : Nat} {L left : List Slot} (h : RangeIs w m r L left) : leftN w m r = left.length := by
  obtain ⟨es, clk, since, seen, c0, h1, h2, h3, h4, h4', h5⟩ := h.is
  have := congrArg List.length h5
  simp only [Go.Proofs.YtkkmcnngpahfaaaGreatDoor.leftN, h1.block, h2]
  simpa using this
theorem RangeIs.sub {w : World} {m r : Nat} {L left : List Slot} (h : RangeIs w m r L left) : ∀ s ∈ left, s.kv ∈ L.map Slot.kv := fun s hs => by
  obtain ⟨es, clk, since, seen, c0, h1, h2, h3, h4, h4', h5⟩ := h.is
  have : s.kv ∈ (leftOf es seen).toList.map (fun e => (e.key, e.val)) := by
    rw [h5]
    exact List.mem_map.2 ⟨s, hs, rfl⟩
  obtain ⟨e, he, h6⟩ := List.mem_map.1 this
  rw [← h1.is]
  exact List.mem_map.2 ⟨e, (mem_left he).1, h6⟩
theorem SlotsAt.range {w : World} {m : Nat} {L : List Slot} (h : SlotsAt w m L) : ∃ w', (Instr.range 155 (.map (some m))).run Tryz.prog w = .ok (.pointer (some ⟨w.heap.size, 0, none⟩)) w' ∧ RangeIs w' m w.heap.size L L ∧ Below w.heap.size w w' ∧ w'.heap.size = w.heap.size + 1 := by
  have hlt := h.lt
  obtain ⟨es, clk, h1⟩ := h
  refine ⟨_, run_range_map w _ _ _ m es clk Tryz.underlying155 h1.block, ⟨es, clk, clk, #[], clk, ⟨((MapKept.heap_alloc w _).2 m hlt).trans h1.block, h1.stamped, h1.is, h1.wf⟩, (MapKept.heap_alloc w _).1, h1.stamped.1, Nat.le_refl _, Nat.le_refl _, ?_⟩, (Below.refl _ _).alloc (Nat.le_refl _) _, by simp⟩
  rw [← h1.is]
  unfold leftOf
  rw [Array.toList_filter]
  rw [List.filter_eq_self.2 (fun _ _ => by simp)]

theorem RangeIs.next {w : World} {m r : Nat} {L left : List Slot} (h : RangeIs w m r L left) (ty : TypeId) :
    (left = [] ∧ (Instr.next (.pointer (some ⟨r, 0, none⟩)) false ty).run Tryz.prog w = .ok (.tuple #[.bool false]) w) ∨
    ∃ s w', s ∈ left ∧ (Instr.next (.pointer (some ⟨r, 0, none⟩)) false ty).run Tryz.prog w = .ok (.tuple #[.bool true, keyV s.ino s.page, heldV s.frame s.asked]) w' ∧ RangeIs w' m r L (left.filter fun x => !Slot.at s.ino s.page x) ∧ Mod (fun j => j = r) w w' ∧ w'.heap.size = w.heap.size ∧
      (Instr.entry (.pointer (some ⟨r, 0, none⟩))).run Tryz.prog w' = .ok (.tuple #[keyV s.ino s.page, heldV s.frame s.asked]) w' := by
  obtain ⟨es, clk, since, seen, c0, h1, h2, h3, h4, h4', h5⟩ := h.is
  have hne : m ≠ r := fun e => by
    have := h1.block
    rw [e, h2] at this
    cases this
  rcases run_next_at w ty r m since c0 seen es clk h2 h1.block h3 h4 with ⟨h6, h7⟩ | ⟨e, he, w1, hw1, h7⟩
  · left
    refine ⟨?_, h7⟩
    have := congrArg List.length h5
    simp only [List.length_map, Array.length_toList, h6] at this
    exact List.eq_nil_of_length_eq_zero this.symm
  · right
    have hme : (e.key, e.val) ∈ left.map Slot.kv := by
      rw [← h5]
      exact List.mem_map.2 ⟨e, he, rfl⟩
    obtain ⟨s, hs, h8⟩ := List.mem_map.1 hme
    have hk : e.key = keyV s.ino s.page := (congrArg Prod.fst h8).symm
    have hv : e.val = heldV s.frame s.asked := (congrArg Prod.snd h8).symm
    have hall := (MapKept.stamped_iff es clk).1 h1.stamped
    have hin := (mem_left he).1
    have hb1 : w1.heap = w.heap := by rcases hw1 with rfl | rfl <;> rfl
    have hm1 : Mod (fun j => j = r) w w1 := by rcases hw1 with rfl | rfl <;> exact ⟨rfl, rfl, rfl, Nat.le_refl _, fun _ _ _ => rfl⟩
    have hr1 : w1.heap[r]? = some (.mapIter (some m) since seen c0) := by rw [hb1]; exact h2
    have hnew : (setBlock w1 r (.mapIter (some m) since (seen.push e.born) clk)).heap[r]? = some (.mapIter (some m) since (seen.push e.born) clk) := sb_same (Array.getElem?_eq_some_iff.1 hr1).1
    have hmap : (setBlock w1 r (.mapIter (some m) since (seen.push e.born) clk)).heap[m]? = w.heap[m]? := by
      rw [← hb1]
      exact sb_other hne
    rw [hk, hv] at h7
    refine ⟨s, _, hs, h7, ⟨es, clk, since, seen.push e.born, clk, ⟨hmap.trans h1.block, h1.stamped, h1.is, h1.wf⟩, hnew, h3, h4', h4', ?_⟩, hm1.trans (Out.refl _ _) setBlock_mod, by rw [setBlock_size, hb1], ?_⟩
    · classical
      have e1 : (leftOf es (seen.push e.born)).toList = (leftOf es seen).toList.filter fun x => decide (x.key ≠ keyV s.ino s.page) := by
        unfold leftOf
        rw [Array.toList_filter, Array.toList_filter, List.filter_filter]
        refine List.filter_congr fun x hx => ?_
        rw [contains_push]
        by_cases hbe : x.born = e.born
        · have hxe := born_inj hall.2.1 hx hin hbe
          subst hxe
          simp [hk]
        · have : ¬ x.key = keyV s.ino s.page := fun e1 => hbe (by rw [entry_eq_of_key hall.2.2 hx hin (e1.trans hk.symm)])
          simp [hbe, this]
      rw [e1]
      have e2 : ((leftOf es seen).toList.filter fun x => decide (x.key ≠ keyV s.ino s.page)).map (fun e => (e.key, e.val)) = (((leftOf es seen).toList.map (fun e => (e.key, e.val))).filter fun v => decide (v.1 ≠ keyV s.ino s.page)) := by
        rw [List.filter_map]
        rfl
      rw [e2, h5, List.filter_map]
      congr 1
      refine List.filter_congr fun x hx => ?_
      show decide (keyV x.ino x.page ≠ keyV s.ino s.page) = !Slot.at s.ino s.page x
      cases hc : Slot.at s.ino s.page x with
      | true =>
        obtain ⟨a1, a2⟩ := Slot.at_iff.1 hc
        rw [a1, a2]
        simp
      | false =>
        refine decide_eq_true fun e3 => ?_
        rw [keyV_inj] at e3
        rw [Slot.at_iff.2 e3] at hc
        cases hc
    · rw [← hk, ← hv]
      exact run_entry_at _ r m since seen es clk e hnew (hmap.trans h1.block) hin hall.2.1

end Go.Proofs.YtkkmcnngpahfaaaGreatDoor
