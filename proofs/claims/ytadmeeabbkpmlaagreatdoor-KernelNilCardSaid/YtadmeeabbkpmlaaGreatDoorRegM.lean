/- Regions: slices.Insert of one region, at every place. -/
import Derived.Test.YtadmeeabbkpmlaaGreatDoorRegL
import Derived.Lib.AppendZerosOnto
import Derived.Lib.Overlaps
import Derived.Laws.Externs
import Derived.Laws.CopyOwn
namespace Go.Proofs.YtadmeeabbkpmlaaGreatDoor
open Go.RowKit Go.Sort
set_option linter.unusedSimpArgs false
set_option linter.unusedVariables false
set_option maxRecDepth 100000

section
variable {P : Program}
/-- copy into a row, elements of any size -/
theorem run_copy_rowN (w : World) (dT sT ty elem : TypeId) (size : Nat) (g o dLen dCap : Nat) (a : Addr) (sLen sCap : Nat) (cur : Array Value) (t : TypeId) (cs : List Value)
    (hu : P.underlying dT = some (.slice elem)) (hs : (P.info? elem).map (·.size) = some size)
    (hg : w.heap[g]? = some (.cells cur t (0, 0))) (k : Nat) (hk : k = Nat.min sLen dLen) (hn : cs.length = k * size)
    (hsrc : ∀ j v, cs[j]? = some v → w.cell? (a.add j) = some v) (hfit : o + cs.length ≤ cur.size) (h1 : ∀ v ∈ cs, v.oneCell' = true) :
    (Builtin.copy_ #[dT, sT] ty #[.slice (some ⟨g, o, none⟩) dLen dCap, .slice (some a) sLen sCap]).run P w =
      .ok (goInt k) (w.setRow g (cur.toList.take o ++ cs ++ cur.toList.drop (o + cs.length)).toArray) := by
  have hl := run_loadCells_list (P := P) w a cs hsrc
  have hst := run_storeCells_at P g o t cs 0 cur w hg (by simpa using hfit) h1
  cases hq : P.info? elem with
  | none => simp [hq] at hs
  | some i =>
    have hi : i.size = size := by simpa [hq] using hs
    rw [hn] at hl
    simp [Builtin.copy_, run_underlying hu, Builtin.lenOf, Builtin.firstCells, sizeOf, typeInfo, hq, hi, ← hk, hl, hst]

theorem wp_copy_runM (w : World) {o : Oper} {a : Act} {K : Act → World → Prop} {Q : Exit → Act → World → Prop} (d s : Operand) (t t' : TypeId)
    (ho : o.op = .call { callee := .builtin .copy, args := #[d, s], argTypes := #[t, t'] }) (v u : Value) (hd : a.eval d = v) (hs : a.eval s = u) {v' : Value} {w' : World}
    (hr : (Builtin.copy_ #[t, t'] o.type #[v, u]).run P w = .ok v' w') (h : K (a.put o.dst v') w') : o.wp P a w K Q := by
  unfold Oper.wp execOp
  simp only [ho, resolve, invoke, builtin, Sem.run_bind, Sem.run_pure, Result.andThen_ok, List.map_toArray, List.map_cons, List.map_nil, hd, hs, hr]
  exact h
theorem wpList_copy_runM (w : World) {ops : Array Oper} {rest : List Oper} {o : Oper} {a : Act} {Q : Exit → Act → World → Prop} (hgd : o.guard = none) (d s : Operand) (t t' : TypeId)
    (ho : o.op = .call { callee := .builtin .copy, args := #[d, s], argTypes := #[t, t'] }) (v u : Value) (hd : a.eval d = v) (hs : a.eval s = u) {v' : Value} {w' : World}
    (hr : (Builtin.copy_ #[t, t'] o.type #[v, u]).run P w = .ok v' w') (h : wpList P ops Q rest (a.put o.dst v') w') : wpList P ops Q (o :: rest) a w :=
  wpList_plain hgd fun _ hK => wp_copy_runM w d s t t' ho v u hd hs hr (hK _ _ h)
theorem step_copy_runM {ops : Array Oper} {o : Oper} {a : Act} {w : World} {K : Act → World → Prop} {Q : Exit → Act → World → Prop} {E : Prop}
    (hg : o.guard = none) (d x : Operand) (dT sT : TypeId) (hop : o.op = Op.call { callee := Callee.builtin Builtin.copy, args := #[d, x], argTypes := #[dT, sT] })
    (v u : Value) (hd : a.eval d = v) (hx : a.eval x = u) {v' : Value} {w' : World} (hr : (Builtin.copy_ #[dT, sT] o.type #[v, u]).run P w = .ok v' w') (hK : K (a.put o.dst v') w') :
    if Region.wanted o (yielded ops a.tmps) = true then Oper.wp P o a w K Q else E := by
  have hw : Region.wanted o (yielded ops a.tmps) = true := by simp [Region.wanted, hg]
  rw [if_pos hw]
  exact wp_copy_runM w d x dT sT hop v u hd hx hr hK
end

def Rg.insAt (l : List Reg) (i : Nat) (r : Reg) : List Reg := l.take i ++ r :: l.drop i

theorem rcs_take (l : List Reg) (i : Nat) : (rcs l).take (i * 5) = rcs (l.take i) := by
  induction l generalizing i with
  | nil => simp [rcs]
  | cons x l ih =>
    cases i with
    | zero => simp [rcs]
    | succ i =>
      have e0 : (i + 1) * 5 = i * 5 + 1 + 1 + 1 + 1 + 1 := by omega
      rw [e0]
      simp only [rcs, rc, List.cons_append, List.nil_append, List.take_succ_cons, ih]
theorem rcs_drop (l : List Reg) (i : Nat) : (rcs l).drop (i * 5) = rcs (l.drop i) := by
  induction l generalizing i with
  | nil => simp [rcs]
  | cons x l ih =>
    cases i with
    | zero => simp [rcs]
    | succ i =>
      have e0 : (i + 1) * 5 = i * 5 + 1 + 1 + 1 + 1 + 1 := by omega
      rw [e0]
      simp only [rcs, rc, List.cons_append, List.nil_append, List.drop_succ_cons, ih]

/-- The end of the list: an append. -/
theorem insert_end (A : Option Addr) (cap : Nat) (l : List Reg) (r : Reg) (bv c base : Nat) (w : World) (ho : OwnR w base A cap l) (hbase : base ≤ w.heap.size) (hf : l.length ≤ 100000)
    (hv : w.heap[bv]? = some (.cells #[.int .u64 r.fr, .int .u64 r.to, .int .u8 r.prot, .int .i64 r.ino, .int .u64 r.off] 179 (0, 0))) :
    Calls Tryz.prog 182 #[.slice A l.length cap, .int .i64 l.length, .slice (some ⟨bv, 0, none⟩) 1 c] w
      fun e w' => ∃ A' cap', e = .returned (.slice A' (l.length + 1) cap') ∧ OwnR w' base A' cap' (l ++ [r]) ∧ Below base w w' := by
  have hfm := ho.form
  have hc : l.length ≤ cap := by rcases hfm with ⟨_, h, _⟩ | ⟨g, _, _, _, h⟩ <;> simp_all
  generalize hm : l.length = m at *
  have HM := Lib.hid hm
  have HO := Lib.hid ho
  clear hm ho hfm
  go_enter Tryz.func182, Tryz.ntmps182
  go_wp2_with (at_builtin; refine app_reg rfl (.tmp 23) (.tmp 24) rfl base A cap l (by rw [HM.out]; rfl) HO.out r bv c rfl hv (by rw [HM.out]; omega) hbase ?_; rw [HM.out]; intro g' cap' w2 ho2 hg2 hat2 hlt2)
  all_goals
    go_ret
    refine ⟨some ⟨g', 0, none⟩, cap', rfl, ho2, ?_⟩
    exact below_app (Below.refl _ _) HO.out hg2 hbase

theorem reg_size : (Tryz.prog.info? 179).map (·.size) = some 5 := by kernel_rfl

theorem row_room {cur : List Value} {l : List Reg} {i cap : Nat} (r : Reg) (hs : cur.length = cap * 5) (ht : cur.take (l.length * 5) = rcs l) (hi : i < l.length) (hc : l.length + 1 ≤ cap) :
    let row1 := cur.take ((i + 1) * 5) ++ rcs (l.drop i) ++ cur.drop ((i + 1) * 5 + (rcs (l.drop i)).length)
    let row2 := row1.take (i * 5) ++ rc r ++ row1.drop (i * 5 + (rc r).length)
    row1.length = cap * 5 ∧ row2.length = cap * 5 ∧ row2.take ((l.length + 1) * 5) = rcs (Rg.insAt l i r) := by
  intro row1 row2
  have hd : (rcs (l.drop i)).length = (l.length - i) * 5 := by rw [rcs_length, List.length_drop]
  have hr : (rc r).length = 5 := rfl
  have h1 : row1.length = cap * 5 := by
    simp only [row1, List.length_append, List.length_take, List.length_drop, hd, hs]
    omega
  have h2 : row2.length = cap * 5 := by
    simp only [row2, List.length_append, List.length_take, List.length_drop, hr, h1]
    omega
  refine ⟨h1, h2, ?_⟩
  have ea : row1.take (i * 5) = rcs (l.take i) := by
    simp only [row1]
    rw [List.append_assoc, List.take_append_of_le_length (by rw [List.length_take]; omega), List.take_take, Nat.min_eq_left (by omega), ← rcs_take, ← ht, List.take_take, Nat.min_eq_left (by omega)]
  have eb : row1.drop (i * 5 + 5) = rcs (l.drop i) ++ cur.drop ((i + 1) * 5 + (rcs (l.drop i)).length) := by
    simp only [row1]
    rw [List.append_assoc, List.drop_append_of_le_length (by rw [List.length_take]; omega), List.drop_of_length_le (by rw [List.length_take]; omega), List.nil_append]
  simp only [row2]
  rw [ea, hr, eb]
  have hl : (l.length + 1) * 5 = (rcs (l.take i) ++ rc r ++ rcs (l.drop i)).length := by
    rw [List.length_append, List.length_append, hr, hd, rcs_length, List.length_take]
    omega
  rw [← List.append_assoc, hl, List.take_left]
  simp [Rg.insAt, rcs_append, rcs]

set_option maxHeartbeats 4000000 in
set_option maxRecDepth 100000 in
/-- There is room: in place. -/
theorem insert_room (g cap : Nat) (l : List Reg) (r : Reg) (i bv c base : Nat) (w : World) (ho : OwnR w base (some ⟨g, 0, none⟩) cap l) (hbase : base ≤ w.heap.size) (hf : l.length ≤ 100000) (hi : i < l.length) (hc : l.length + 1 ≤ cap)
    (hv : w.heap[bv]? = some (.cells #[.int .u64 r.fr, .int .u64 r.to, .int .u8 r.prot, .int .i64 r.ino, .int .u64 r.off] 179 (0, 0))) (hne : bv ≠ g) :
    Calls Tryz.prog 182 #[.slice (some ⟨g, 0, none⟩) l.length cap, .int .i64 i, .slice (some ⟨bv, 0, none⟩) 1 c] w
      fun e w' => ∃ A' cap', e = .returned (.slice A' (l.length + 1) cap') ∧ OwnR w' base A' cap' (Rg.insAt l i r) ∧ Below base w w' := by
  rcases ho.2 with ⟨h, _⟩ | ⟨g', cap', cur, he, hgb, hg, hnc, hcm, hcs, htake⟩
  · simp at h
  obtain ⟨rfl, rfl⟩ : g = g' ∧ cap = cap' := by simpa using he
  have hrow := row_room (cur := cur.toList) (l := l) (i := i) (cap := cap) r (by simpa using hcs) htake hi hc
  simp only at hrow
  generalize hr1 : cur.toList.take ((i + 1) * 5) ++ rcs (l.drop i) ++ cur.toList.drop ((i + 1) * 5 + (rcs (l.drop i)).length) = row1 at hrow
  generalize hr2 : row1.take (i * 5) ++ rc r ++ row1.drop (i * 5 + (rc r).length) = row2 at hrow
  obtain ⟨hl1, hl2, hfin⟩ := hrow
  have hd : (rcs (l.drop i)).length = (l.length - i) * 5 := by rw [rcs_length, List.length_drop]
  have hlen : (rcs l).length = l.length * 5 := rcs_length l
  have hsrc1 : ∀ j v, (rcs (l.drop i))[j]? = some v → w.drew.cell? ((⟨g, i * 5, none⟩ : Addr).add j) = some v := fun j v hj => by
    have hj2 : j < (l.length - i) * 5 := by rw [← hd]; exact (List.getElem?_eq_some_iff.1 hj).1
    have hadd : (⟨g, i * 5, none⟩ : Addr).add j = ⟨g, i * 5 + j, none⟩ := by unfold Addr.add; split <;> simp_all
    rw [hadd]
    show w.cell? _ = _
    rw [cell_of_row w g (i * 5 + j) cur _ _ hg]
    rw [← rcs_drop, List.getElem?_drop, ← htake, List.getElem?_take, if_pos (by omega)] at hj
    simpa using hj
  -- the run of the two copies
  have hcp1 : ∀ ty dc sc, (Builtin.copy_ #[117, 117] ty #[.slice (some ⟨g, (i + 1) * 5, none⟩) (l.length - i) dc, .slice (some ⟨g, i * 5, none⟩) (l.length + 1 - i) sc]).run Tryz.prog w.drew = .ok (goInt ((l.length - i : Nat) : Int)) (w.drew.setRow g row1.toArray) := fun ty dc sc => by
    rw [run_copy_rowN (P := Tryz.prog) w.drew 117 117 ty 179 5 g ((i + 1) * 5) (l.length - i) dc ⟨g, i * 5, none⟩ (l.length + 1 - i) sc cur 179 (rcs (l.drop i)) Tryz.underlying117 reg_size hg (l.length - i)
      (by simp only [Nat.min_def]; split <;> omega) (by rw [hd]) hsrc1 (by rw [hd, hcs]; omega) (rcs_one_cell _), hr1]
  have hW1 : (w.drew.setRow g row1.toArray).heap[g]? = some (.cells row1.toArray 179 (0, 0)) := setRow_heap w.drew g cur _ _ _ hg
  have hvW1 : (w.drew.setRow g row1.toArray).heap[bv]? = some (.cells #[.int .u64 r.fr, .int .u64 r.to, .int .u8 r.prot, .int .i64 r.ino, .int .u64 r.off] 179 (0, 0)) := (setRow_other w.drew g bv _ hne).trans hv
  generalize hw1 : w.drew.setRow g row1.toArray = W1 at *
  have hcp2 : ∀ ty dc sc, (Builtin.copy_ #[117, 117] ty #[.slice (some ⟨g, i * 5, none⟩) (l.length + 1 - i) dc, .slice (some ⟨bv, 0, none⟩) 1 sc]).run Tryz.prog W1 = .ok (goInt ((1 : Nat) : Int)) (W1.setRow g row2.toArray) := fun ty dc sc => by
    rw [run_copy_rowN (P := Tryz.prog) W1 117 117 ty 179 5 g (i * 5) (l.length + 1 - i) dc ⟨bv, 0, none⟩ 1 sc row1.toArray 179 (rc r) Tryz.underlying117 reg_size hW1 1
      (by simp only [Nat.min_def]; split <;> omega) rfl (World.news_of_block (cs := #[.int .u64 r.fr, .int .u64 r.to, .int .u8 r.prot, .int .i64 r.ino, .int .u64 r.off]) hvW1) (by simp [hl1, rc]; omega) (by rw [← rcs_one]; exact rcs_one_cell _)]
    simp only [← hr2]
  have hW2 : OwnR (W1.setRow g row2.toArray) base (some ⟨g, 0, none⟩) cap (Rg.insAt l i r) := by
    have hlen2 : (Rg.insAt l i r).length = l.length + 1 := by simp [Rg.insAt]; omega
    refine ⟨rcs_length _, .inr ⟨g, cap, row2.toArray, rfl, hgb, setRow_heap W1 g _ _ _ _ hW1, by rw [hlen2]; exact hc, hcm, by simpa using hl2, ?_⟩⟩
    rw [hlen2]
    simpa using hfin
  have hB2 : Below base w (W1.setRow g row2.toArray) := by
    subst hw1
    exact below_setRow (below_setRow ((Below.refl base w).drew) hgb _) hgb _
  have hov : ∀ lb cb, (callFunc 239 #[.slice (some ⟨bv, 0, none⟩) 1 c, .slice (some ⟨g, (i + 1) * 5, none⟩) lb cb]).run Tryz.prog w = .ok (.value (.bool false)) w := fun lb cb => by
    rw [run_callFunc_extern Tryz.func239 (by kernel_rfl) (by kernel_rfl) (by kernel_rfl) (e := Extern.SlicesOverlaps.overlaps #[117, 117] #[4]) (by kernel_rfl),
      Lib.run_overlaps_apart w 117 4 179 Tryz.underlying117 5 (fun w => by kernel_rfl) ⟨bv, 0, none⟩ ⟨g, (i + 1) * 5, none⟩ 1 c lb cb hne 179 179 5 (cap * 5) (by simp [World.shape?, hv]) (by simp [World.shape?, hg, hcs]) (by omega) (by simp [World.frozen?, hv]) (by simp [World.frozen?, hv])]
    rfl
  have HC1 := Lib.hid hcp1
  have HC2 := Lib.hid hcp2
  have HW2 := Lib.hid hW2
  have HB2 := Lib.hid hB2
  have HL := Lib.hid (rfl : l.length = l.length)
  clear hcp1 hcp2 hW2 hB2 hfin hl1 hl2 hr1 hr2 hW1 hvW1 hw1 htake hcs hd hlen ho he hg hv
  generalize l.length = n at *
  have hin : ¬ ((i : Int) = (n : Int)) := by omega
  have hin2 : ((i : Int) == (n : Int)) = false := by simp; omega
  go_enter Tryz.func182, Tryz.ntmps182
  go_wp2_with (simp only [hov])
  have hw1 : IntKind.i64.wrap ((i : Int) + 1) = (i : Int) + 1 := IntWalk.i64_in _ (by omega)
  have hb1 : (0 : Int) ≤ (i : Int) + 1 := by omega
  have htn : ((i : Int) + 1).toNat = i + 1 := by omega
  have hb2 : ¬ (cap = i + 1) := by omega
  have hb3 : (i : Int) ≤ (n : Int) + 1 := by omega
  have hb5 : (i : Int) ≤ (n : Int) := by omega
  have hb4 : ¬ (cap = i) := by omega
  go_region_law (refine step_copy_runM rfl (.tmp 73) (.tmp 76) 117 117 rfl _ _ (by simp [Act.eval, Act.put]; rfl) (by simp [Act.eval, Act.put]; rfl) (HC1.out _ _ _) ?_)
  go_wp2_with (refine wpList_copy_runM _ rfl (.tmp 80) (.tmp 81) 117 117 rfl _ _ rfl rfl (HC2.out _ _ _) ?_)
  go_ret
  exact ⟨some ⟨g, 0, none⟩, cap, rfl, HW2.out, HB2.out⟩

theorem row_grow {cur : List Value} {l : List Reg} {i gc : Nat} (r : Reg) (hs : cur.length = gc * 5) (ht : cur.take (i * 5) = rcs (l.take i)) (hi : i < l.length) (hc : l.length + 1 ≤ gc) :
    let row1 := cur.take (i * 5) ++ rc r ++ cur.drop (i * 5 + (rc r).length)
    let row2 := row1.take ((i + 1) * 5) ++ rcs (l.drop i) ++ row1.drop ((i + 1) * 5 + (rcs (l.drop i)).length)
    row1.length = gc * 5 ∧ row2.length = gc * 5 ∧ row2.take ((l.length + 1) * 5) = rcs (Rg.insAt l i r) := by
  intro row1 row2
  have hd : (rcs (l.drop i)).length = (l.length - i) * 5 := by rw [rcs_length, List.length_drop]
  have hr : (rc r).length = 5 := rfl
  have h1 : row1.length = gc * 5 := by
    simp only [row1, List.length_append, List.length_take, List.length_drop, hr, hs]
    omega
  have h2 : row2.length = gc * 5 := by
    simp only [row2, List.length_append, List.length_take, List.length_drop, hd, h1]
    omega
  refine ⟨h1, h2, ?_⟩
  have ht5 : (rcs (l.take i)).length = i * 5 := by rw [rcs_length, List.length_take, Nat.min_eq_left (by omega)]
  have ea : row1.take ((i + 1) * 5) = rcs (l.take i) ++ rc r := by
    simp only [row1]
    rw [ht, List.take_append_of_le_length (by rw [List.length_append, ht5, hr]; omega), List.take_of_length_le (by rw [List.length_append, ht5, hr]; omega)]
  simp only [row2]
  rw [ea]
  have hl : (l.length + 1) * 5 = (rcs (l.take i) ++ rc r ++ rcs (l.drop i)).length := by
    rw [List.length_append, List.length_append, hr, hd, ht5]
    omega
  rw [hl, List.take_left]
  simp [Rg.insAt, rcs_append, rcs]

theorem zero_len (k : Nat) : (Builtin.zeroCells (Value.agg #[.int .u64 0, .int .u64 0, .int .u8 0, .int .i64 0, .int .u64 0]).cells k).size = k * 5 := by
  rw [size_zeroCells]
  rfl

set_option maxHeartbeats 4000000 in
set_option maxRecDepth 100000 in
/-- There is no room: a new row. -/
theorem insert_grow (g cap : Nat) (l : List Reg) (r : Reg) (i bv c base : Nat) (w : World) (ho : OwnR w base (some ⟨g, 0, none⟩) cap l) (hbase : base ≤ w.heap.size) (hf : l.length ≤ 100000) (hi : i < l.length) (hc : cap < l.length + 1)
    (hv : w.heap[bv]? = some (.cells #[.int .u64 r.fr, .int .u64 r.to, .int .u8 r.prot, .int .i64 r.ino, .int .u64 r.off] 179 (0, 0))) :
    Calls Tryz.prog 182 #[.slice (some ⟨g, 0, none⟩) l.length cap, .int .i64 i, .slice (some ⟨bv, 0, none⟩) 1 c] w
      fun e w' => ∃ A' cap', e = .returned (.slice A' (l.length + 1) cap') ∧ OwnR w' base A' cap' (Rg.insAt l i r) ∧ Below base w w' := by
  obtain ⟨i0, hi0, hz0, hz1, hz2⟩ := info_parts reg_info
  rcases ho.2 with ⟨h, _⟩ | ⟨g', cap', cur, he, hgb, hg, hnc, hcm, hcs, htake⟩
  · simp at h
  obtain ⟨rfl, rfl⟩ : g = g' ∧ cap = cap' := by simpa using he
  have hbv := (Array.getElem?_eq_some_iff.1 hv).1
  have hgl := (Array.getElem?_eq_some_iff.1 hg).1
  have hd : (rcs (l.drop i)).length = (l.length - i) * 5 := by rw [rcs_length, List.length_drop]
  have hlt : (rcs (l.take i)).length = i * 5 := by rw [rcs_length, List.length_take, Nat.min_eq_left (by omega)]
  have hge := grownCap_ge w (l.length + 1) cap 179
  have hgm := grownCap_le_maxLen w (l.length + 1) cap 179 (by unfold maxLen; omega)
  have hcell : ∀ j v, (rcs l)[j]? = some v → w.cell? ((⟨g, 0, none⟩ : Addr).add j) = some v := fun j v hj => by
    have hadd : (⟨g, 0, none⟩ : Addr).add j = ⟨g, j, none⟩ := by unfold Addr.add; split <;> simp_all
    rw [hadd, cell_of_row w g j cur _ _ hg]
    rw [← htake, List.getElem?_take] at hj
    split at hj
    · simpa using hj
    · cases hj
  -- the row that is made
  have hap : ∀ ty, (Builtin.append_ #[117, 3] ty #[.slice (some ⟨g, 0, none⟩) i cap, .int .i64 ((l.length : Int) + 1 - (i : Int))]).run Tryz.prog w =
      .ok (.slice (some ⟨w.heap.size, 0, none⟩) (l.length + 1) (grownCap w (l.length + 1) cap 179)) (w.drew.alloc (.cells ((rcs (l.take i)).toArray ++ Builtin.zeroCells (Value.agg #[.int .u64 0, .int .u64 0, .int .u8 0, .int .i64 0, .int .u64 0]).cells (l.length + 1 - i) ++ Builtin.zeroCells (Value.agg #[.int .u64 0, .int .u64 0, .int .u8 0, .int .i64 0, .int .u64 0]).cells (grownCap w (l.length + 1) cap 179 - (l.length + 1))) 179)) := fun ty => by
    have hk : ((l.length : Int) + 1 - (i : Int)) = ((l.length + 1 - i : Nat) : Int) := by omega
    have hsum : i + (l.length + 1 - i) = l.length + 1 := by omega
    have hrun := Lib.run_append_grow_zeros (P := Tryz.prog) w 117 3 ty 179 i0 _ .i64 .i64 Tryz.underlying117 Tryz.underlying3 hi0 hz0 (some ⟨g, 0, none⟩) i cap (rcs (l.take i))
      (run_firstCells_some (P := Tryz.prog) w.drew i0.size i ⟨g, 0, none⟩ i cap (rcs (l.take i)) (by rw [hz1, hlt]) (fun j v hj => hcell j v (by
        rw [← rcs_take, List.getElem?_take] at hj
        split at hj
        · exact hj
        · cases hj))) (l.length + 1 - i) (by omega) (by rw [hz1]; omega) (by omega) (by omega) (by rw [hz2]; omega) (by rw [hz2, hsum]; exact growslice_fits (by omega) (by omega))
    rw [hsum] at hrun
    rw [hk]
    exact hrun
  generalize hgc : grownCap w (l.length + 1) cap 179 = gc at *
  generalize hcur : (rcs (l.take i)).toArray ++ Builtin.zeroCells (Value.agg #[.int .u64 0, .int .u64 0, .int .u8 0, .int .i64 0, .int .u64 0]).cells (l.length + 1 - i) ++ Builtin.zeroCells (Value.agg #[.int .u64 0, .int .u64 0, .int .u8 0, .int .i64 0, .int .u64 0]).cells (gc - (l.length + 1)) = cur0 at *
  have hcs0 : cur0.toList.length = gc * 5 := by
    rw [← hcur]
    simp only [Array.length_toList, Array.size_append, zero_len, List.size_toArray, hlt]
    omega
  have ht0 : cur0.toList.take (i * 5) = rcs (l.take i) := by
    rw [← hcur]
    simp only [Array.toList_append, List.append_assoc]
    rw [← hlt]
    exact List.take_left
  have hrow := row_grow (cur := cur0.toList) (l := l) (i := i) (gc := gc) r hcs0 ht0 hi hge
  simp only at hrow
  generalize hr1 : cur0.toList.take (i * 5) ++ rc r ++ cur0.toList.drop (i * 5 + (rc r).length) = row1 at hrow
  generalize hr2 : row1.take ((i + 1) * 5) ++ rcs (l.drop i) ++ row1.drop ((i + 1) * 5 + (rcs (l.drop i)).length) = row2 at hrow
  obtain ⟨hl1, hl2, hfin⟩ := hrow
  have hW1 : (w.drew.alloc (.cells cur0 179)).heap[w.heap.size]? = some (.cells cur0 179 (0, 0)) := heap_alloc_new w.drew _
  have hvW1 := (Below.heap_alloc w.drew (.cells cur0 179) bv hbv).trans hv
  have hgW1 := (Below.heap_alloc w.drew (.cells cur0 179) g hgl).trans hg
  have hBW1 : Below base w (w.drew.alloc (.cells cur0 179)) := ((Below.refl base w).drew).alloc hbase _
  generalize hw1 : w.drew.alloc (.cells cur0 179) = W1 at *
  have hcp1 : ∀ ty dc sc, (Builtin.copy_ #[117, 117] ty #[.slice (some ⟨w.heap.size, i * 5, none⟩) (l.length + 1 - i) dc, .slice (some ⟨bv, 0, none⟩) 1 sc]).run Tryz.prog W1 = .ok (goInt ((1 : Nat) : Int)) (W1.setRow w.heap.size row1.toArray) := fun ty dc sc => by
    rw [run_copy_rowN (P := Tryz.prog) W1 117 117 ty 179 5 w.heap.size (i * 5) (l.length + 1 - i) dc ⟨bv, 0, none⟩ 1 sc cur0 179 (rc r) Tryz.underlying117 reg_size hW1 1
      (by simp only [Nat.min_def]; split <;> omega) rfl (World.news_of_block (cs := #[.int .u64 r.fr, .int .u64 r.to, .int .u8 r.prot, .int .i64 r.ino, .int .u64 r.off]) hvW1) (by rw [← Array.length_toList, hcs0]; simp [rc]; omega) (by rw [← rcs_one]; exact rcs_one_cell _), hr1]
  have hW2 := setRow_heap W1 w.heap.size cur0 row1.toArray _ _ hW1
  have hgW2 := (setRow_other W1 w.heap.size g row1.toArray (by omega)).trans hgW1
  have hBW2 := below_setRow hBW1 hbase row1.toArray
  generalize hw2 : W1.setRow w.heap.size row1.toArray = W2 at *
  have hcp2 : ∀ ty dc sc, (Builtin.copy_ #[117, 117] ty #[.slice (some ⟨w.heap.size, (i + 1) * 5, none⟩) (l.length - i) dc, .slice (some ⟨g, i * 5, none⟩) (l.length - i) sc]).run Tryz.prog W2.drew = .ok (goInt ((l.length - i : Nat) : Int)) (W2.drew.setRow w.heap.size row2.toArray) := fun ty dc sc => by
    rw [run_copy_rowN (P := Tryz.prog) W2.drew 117 117 ty 179 5 w.heap.size ((i + 1) * 5) (l.length - i) dc ⟨g, i * 5, none⟩ (l.length - i) sc row1.toArray 179 (rcs (l.drop i)) Tryz.underlying117 reg_size hW2 (l.length - i)
      (by simp only [Nat.min_def]; split <;> omega) (by rw [hd]) (fun j v hj => by
        have hj2 : j < (l.length - i) * 5 := by rw [← hd]; exact (List.getElem?_eq_some_iff.1 hj).1
        have hadd : (⟨g, i * 5, none⟩ : Addr).add j = ⟨g, i * 5 + j, none⟩ := by unfold Addr.add; split <;> simp_all
        rw [hadd]
        show W2.cell? _ = _
        rw [cell_of_row W2 g (i * 5 + j) cur _ _ hgW2]
        rw [← rcs_drop, List.getElem?_drop, ← htake, List.getElem?_take, if_pos (by omega)] at hj
        simpa using hj) (by simp [hl1, hd]; omega) (rcs_one_cell _)]
    simp only [← hr2]
  have hW3 : OwnR (W2.drew.setRow w.heap.size row2.toArray) base (some ⟨w.heap.size, 0, none⟩) gc (Rg.insAt l i r) := by
    have hlen2 : (Rg.insAt l i r).length = l.length + 1 := by simp [Rg.insAt]; omega
    refine ⟨rcs_length _, .inr ⟨w.heap.size, gc, row2.toArray, rfl, hbase, setRow_heap W2.drew w.heap.size _ _ _ _ hW2, by rw [hlen2]; exact hge, hgm, by simpa using hl2, ?_⟩⟩
    rw [hlen2]
    simpa using hfin
  have hB3 : Below base w (W2.drew.setRow w.heap.size row2.toArray) := below_setRow hBW2.drew hbase _
  have HA := Lib.hid hap
  have HC1 := Lib.hid hcp1
  have HC2 := Lib.hid hcp2
  have HW3 := Lib.hid hW3
  have HB3 := Lib.hid hB3
  clear hap hcp1 hcp2 hW3 hB3 hfin hl1 hl2 hr1 hr2 hW1 hvW1 hgW1 hBW1 hW2 hgW2 hBW2 hw1 hw2 htake hcs hd hlt ho he hg hv hcell hgc hcur hcs0 ht0 hi0 hz0 hz1 hz2 hgm
  generalize l.length = n at *
  have hin : ¬ ((i : Int) = (n : Int)) := by omega
  have hin2 : ((i : Int) == (n : Int)) = false := by simp; omega
  have hw1 : IntKind.i64.wrap ((i : Int) + 1) = (i : Int) + 1 := IntWalk.i64_in _ (by omega)
  have hb1 : (0 : Int) ≤ (i : Int) + 1 := by omega
  have htn : ((i : Int) + 1).toNat = i + 1 := by omega
  have hb3 : (i : Int) ≤ (n : Int) + 1 := by omega
  have hb5 : (i : Int) ≤ (n : Int) := by omega
  have hb6 : ¬ (cap = i) := by omega
  have hb7 : ¬ (gc = i) := by omega
  have hb8 : ¬ (gc = i + 1) := by omega
  go_enter Tryz.func182, Tryz.ntmps182
  go_wp2_with (first
    | (at_builtin; refine Lib.wpList_append_run _ rfl (.tmp 34) (.tmp 39) 117 3 rfl _ _ rfl rfl _ _ (HA.out _) ?_)
    | (refine wpList_copy_runM _ rfl (.tmp 43) (.tmp 44) 117 117 rfl _ _ rfl rfl (HC1.out _ _ _) ?_))
  go_region_law (refine step_copy_runM rfl (.tmp 50) (.tmp 53) 117 117 rfl _ _ (by simp [Act.eval, Act.put]; rfl) (by simp [Act.eval, Act.put]; rfl) (HC2.out _ _ _) ?_)
  go_wp2
  go_ret
  exact ⟨some ⟨w.heap.size, 0, none⟩, gc, rfl, HW3.out, HB3.out⟩

end Go.Proofs.YtadmeeabbkpmlaaGreatDoor
