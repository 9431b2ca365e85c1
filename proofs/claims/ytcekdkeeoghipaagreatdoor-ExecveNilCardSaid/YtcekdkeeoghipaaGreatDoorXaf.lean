/- hostellaw23.works, evaluated. hostellaw23.ExecveNil, evaluated; what it comes to in any world. -/
import Derived.Test.YtcekdkeeoghipaaGreatDoorXae
set_option linter.unusedSimpArgs false
set_option linter.unusedVariables false
namespace Go.Ev
set_option maxRecDepth 100000
open Go.RowKit Go.Proofs Go.Proofs.YtcekdkeeoghipaaGreatDoor
variable {R : Rho} {m : Mem} {w : World}

noncomputable def wOut (ob : Obj) : Option (AEnd × Mem) := (evC Tryz.prog su23_10 100000).call 15 [] (m0t ob)
/-- **hostellaw23.works, evaluated.** -/
theorem w_eval : (fun ob => resOf (wOut ob)) = fun ob => some ob := by kernel_rfl
theorem wOut_eq (ob : Obj) : wOut ob = (evC Tryz.prog su23_10 100000).call 15 [] (m0t ob) := by delta wOut; exact Eq.refl _
theorem w_out (ob : Obj) : ∃ m l, (ev Tryz.prog su23_10 100000).call 15 [] (m0t ob) = some (.ret (.bool true), m) ∧ m.get 1 = .yes (.tab l ob) := by
  rw [← evC_eq, ← wOut_eq]
  exact resOf_spec (congrFun w_eval ob)
end Go.Ev
namespace Go.Ev
set_option maxRecDepth 100000
open Go.RowKit Go.Proofs Go.Proofs.YtcekdkeeoghipaaGreatDoor
variable {R : Rho} {m : Mem} {w : World}

theorem m0t_get (ob : Obj) (n : Nat) (hn : n < 32768) : (m0t ob).get n = if n = 1 then .yes (.tab tabl ob) else .no := by
  show tget (tset _ 1 tnil) n = _
  rw [tget_tset _ _ (by omega) hn, tget_nil]
  by_cases h1 : n = 1
  · subst h1; rfl
  · rw [if_neg (fun e => h1 e.symm), if_neg h1]
theorem tabl_nums : ∀ v ∈ tabl, isNum v = true := fun v hv => (List.all_eq_true.1 (by kernel_rfl : tabl.all isNum = true)) v hv

/-- The works of a law, as the evaluator takes them: nothing that lay there is changed. -/
noncomputable def worksS (args : List SV) (m : Mem) : Option (AEnd × Mem) := match args with
  | [] => match m.getR 1 with
    | .yes (.tab l _) => cond (listSame l tabl) (some (.ret (.bool true), m)) none
    | _ => none
  | _ => none
theorem worksS_ok {args : List SV} {e : AEnd} {m' : Mem} (hs : worksS args m = some (e, m')) (h : Rel Tryz.prog R m w) : CallRes Tryz.prog ((callFunc 15 (args.map (den R)).toArray).run Tryz.prog w) (EndOK Tryz.prog R m w e m') := by
  unfold worksS at hs
  split at hs
  · rw [Mem.getR_eq] at hs
    split at hs
    · rename_i l ob hg
      cases hl : listSame l tabl with
      | false => rw [hl] at hs; cases hs
      | true =>
        rw [hl] at hs
        simp only [cond_true, Option.some.injEq, Prod.mk.injEq] at hs
        obtain ⟨rfl, rfl⟩ := hs
        have hlt := listSame_eq _ _ hl
        subst hlt
        have hg4 : 4 ≤ m.nxt := by have := h.gl; rw [glob_size] at this; exact this
        have hl1 : m.live 1 := ⟨by omega, by rw [hg]; exact fun e => by cases e⟩
        have hrel : Rel Tryz.prog R (m0t ob) w := by
          refine h.part hg4 (by rw [glob_size]; exact Nat.le_refl 4) (fun n bl hn hgn => ?_) (fun n bl hn hgn => ?_) (fun n hn hn2 => ?_)
          · have hn' : n < 4 := hn
            rw [m0t_get ob n (by omega)] at hgn
            by_cases h1 : n = 1
            · rw [if_pos h1] at hgn; cases hgn; rw [h1]; exact hg
            · rw [if_neg h1] at hgn; cases hgn
          · have hn' : n < 4 := hn
            rw [m0t_get ob n (by omega)] at hgn
            by_cases h1 : n = 1
            · rw [if_pos h1] at hgn; cases hgn
              exact fun v hv => (isNum_den (tabl_nums v hv) R R).2 _
            · rw [if_neg h1] at hgn; cases hgn
          · have hn' : 4 ≤ n := hn
            rw [m0t_get ob n hn2, if_neg (by omega)]
        obtain ⟨mF, l', hev, g1⟩ := w_out ob
        have hcall := ev_calls follows_mixed no_gor su23_10_ok (by kernel_rfl) hev hrel (fun v hv => by cases hv)
        refine calls_res (by kernel_rfl) (hcall.mono fun e' w' he => ?_)
        obtain ⟨R', hP, rfl, _⟩ := he
        have h1F : 1 < mF.nxt := Nat.lt_of_lt_of_le (by decide : 1 < 4) hP.nxt
        have hR1 : R'.b 1 = R.b 1 := (hP.ext 1 (show 1 < 4 by decide)).1
        have hb1 : w'.heap[R.b 1]? = w.heap[R.b 1]? := by
          obtain ⟨_, _, _, k1, _, _⟩ := hP.rel.blk 1 _ h1F g1
          obtain ⟨_, _, _, k2, _, _⟩ := h.blk 1 _ hl1.1 hg
          rw [← hR1, k1, hR1, k2]
        have hmlive : ∀ n, (m0t ob).live n → n = 1 := fun n ⟨h1, h2⟩ => by
          have hn' : n < 4 := h1
          rw [m0t_get ob n (by omega)] at h2
          by_cases h1 : n = 1
          · exact h1
          · rw [if_neg h1] at h2; exact absurd rfl h2
        have hbel : Below w.heap.size w w' := ⟨hP.os, hP.tape, hP.output, hP.size, fun k hk => by
          by_cases h1 : R.b 1 = k
          · rw [← h1]; exact hb1
          · exact hP.keep k hk fun n hn => by rw [hmlive n hn]; exact h1⟩
        exact ⟨R, post_below h hbel, by simp [den], trivial⟩
    · cases hs
  · cases hs
noncomputable def sumC (f : FuncId) : Option (List SV → Mem → Option (AEnd × Mem)) := cond (Nat.beq f 15) (some worksS) (sumB f)
theorem sumC_ok : SumOK Tryz.prog sumC := by
  intro f g hf args m e m' hg R w h hb
  unfold sumC at hf
  cases h1 : Nat.beq f 15 with
  | true =>
    rw [h1, cond_true, Option.some.injEq] at hf
    subst hf
    rw [Nat.eq_of_beq_eq_true h1]
    exact worksS_ok hg h
  | false =>
    rw [h1, cond_false] at hf
    exact sumB_ok f g hf args m e m' hg R w h hb

/-! ### The law -/
/-- The memory ahead of the law, with two names for the rows that come in. -/
noncomputable def m0u (ob : Obj) : Mem := ⟨6, tset (.yes (.tab tabl ob)) 1 tnil⟩
theorem m0u_get (ob : Obj) (n : Nat) (hn : n < 32768) : (m0u ob).get n = if n = 1 then .yes (.tab tabl ob) else .no := by
  show tget (tset _ 1 tnil) n = _
  rw [tget_tset _ _ (by omega) hn, tget_nil]
  by_cases h1 : n = 1
  · subst h1; rfl
  · rw [if_neg (fun e => h1 e.symm), if_neg h1]
noncomputable def lOut (s : List UInt8) (x y : SV) (ob : Obj) : Option (AEnd × Mem) := (evC Tryz.prog sumC 100000).call 4 [.str s, x, y] (m0u ob)
theorem l_nn : (fun s ob => resOf (lOut s (.tag .nils) (.tag .nils) ob)) = fun _ ob => some ob := by kernel_rfl
theorem l_ns : (fun s o1 l1 c1 ob => resOf (lOut s (.tag .nils) (.sl 5 o1 l1 c1) ob)) = fun _ _ _ _ ob => some ob := by kernel_rfl
theorem l_sn : (fun s o1 l1 c1 ob => resOf (lOut s (.sl 4 o1 l1 c1) (.tag .nils) ob)) = fun _ _ _ _ ob => some ob := by kernel_rfl
theorem l_ss : (fun s o1 l1 c1 o2 l2 c2 ob => resOf (lOut s (.sl 4 o1 l1 c1) (.sl 5 o2 l2 c2) ob)) = fun _ _ _ _ _ _ _ ob => some ob := by kernel_rfl
/-- A row that comes in, by the name nm. -/
def In (nm : Nat) (x : SV) : Prop := x = .tag .nils ∨ ∃ o l c, x = .sl nm o l c
theorem l_eval (s : List UInt8) {x y : SV} (hx : In 4 x) (hy : In 5 y) (ob : Obj) : resOf (lOut s x y ob) = some ob := by
  rcases hx with rfl | ⟨o1, l1, c1, rfl⟩ <;> rcases hy with rfl | ⟨o2, l2, c2, rfl⟩
  · exact congrFun (congrFun l_nn s) ob
  · exact congrFun (congrFun (congrFun (congrFun (congrFun l_ns s) o2) l2) c2) ob
  · exact congrFun (congrFun (congrFun (congrFun (congrFun l_sn s) o1) l1) c1) ob
  · exact congrFun (congrFun (congrFun (congrFun (congrFun (congrFun (congrFun (congrFun l_ss s) o1) l1) c1) o2) l2) c2) ob
theorem lOut_eq (s : List UInt8) (x y : SV) (ob : Obj) : lOut s x y ob = (evC Tryz.prog sumC 100000).call 4 [.str s, x, y] (m0u ob) := by delta lOut; exact Eq.refl _
theorem l_out (s : List UInt8) {x y : SV} (hx : In 4 x) (hy : In 5 y) (ob : Obj) : ∃ m l, (ev Tryz.prog sumC 100000).call 4 [.str s, x, y] (m0u ob) = some (.ret (.bool true), m) ∧ m.get 1 = .yes (.tab l ob) := by
  rw [← evC_eq, ← lOut_eq]
  exact resOf_spec (l_eval s hx hy ob)

/-- What start-up lays of math/bits. -/
def DB (w : World) : Prop := ∀ (j : Nat) v, tabl[j]? = some v → w.cell? ⟨1, j, none⟩ = some (den ⟨id, id⟩ v)
def twoB (b4 b5 n : Nat) : Nat := if n = 4 then b4 else if n = 5 then b5 else n
theorem rel0 {w : World} (hd : DB w) (b4 b5 : Nat) : ∃ ob, w.heap[1]? = some ob ∧ Rel Tryz.prog ⟨twoB b4 b5, id⟩ (m0u ob) w := by
  have h0 := hd 0 (b8 0) rfl
  obtain ⟨arr, el, fr, hob⟩ : ∃ arr el fr, w.heap[1]? = some (.cells arr el fr) := by
    unfold World.cell? at h0
    split at h0
    · rename_i arr el fr hh
      exact ⟨arr, el, fr, hh⟩
    · cases h0
  have hlive : ∀ n, (m0u (.cells arr el fr)).live n → n = 1 := fun n ⟨h1, h2⟩ => by
    have h1' : n < 6 := h1
    rw [m0u_get _ n (by omega)] at h2
    by_cases h1 : n = 1
    · exact h1
    · rw [if_neg h1] at h2; exact absurd rfl h2
  refine ⟨_, hob, ⟨(show 6 ≤ 32768 by decide), fun g hg => ?_, by rw [glob_size]; exact (by decide : 4 ≤ 6), fun i j hi hj _ => (hlive i hi).trans (hlive j hj).symm, fun n bl hn hg => ?_, fun n bl hn hg => ?_, fun n hn hn2 => ?_⟩⟩
  · rw [glob_size] at hg
    show twoB b4 b5 g = g
    unfold twoB
    rw [if_neg (by omega), if_neg (by omega)]
  · have hn' : n < 6 := hn
    rw [m0u_get _ n (by omega)] at hg
    by_cases h1 : n = 1
    · rw [if_pos h1] at hg; cases hg
      exact fun v hv => (isNum_den (tabl_nums v hv) ⟨id, id⟩ ⟨id, id⟩).2 _
    · rw [if_neg h1] at hg; cases hg
  · have hn' : n < 6 := hn
    rw [m0u_get _ n (by omega)] at hg
    by_cases h1 : n = 1
    · rw [if_pos h1] at hg; cases hg
      subst h1
      refine ⟨arr, el, fr, hob, rfl, fun j v hv => ?_⟩
      have := hd j v hv
      simp only [World.cell?, hob] at this
      have e := (isNum_den (tabl_nums v (List.mem_of_getElem? hv)) ⟨id, id⟩ ⟨twoB b4 b5, id⟩).1
      exact this.trans (congrArg some e.symm)
    · rw [if_neg h1] at hg; cases hg
  · have hn' : 6 ≤ n := hn
    rw [m0u_get _ n hn2, if_neg (by omega)]

/-- What a row of the door is: none, or one that lies in a block as a whole. -/
def RowIn (v : Value) : Prop := v = .slice none 0 0 ∨ ∃ b o l c, v = .slice (some ⟨b, o, none⟩) l c
theorem RowIn.sv {v : Value} (h : RowIn v) (nm : Nat) : ∃ x b, In nm x ∧ ∀ R : Rho, R.b nm = b → den R x = v := by
  rcases h with rfl | ⟨b, o, l, c, rfl⟩
  · exact ⟨.tag .nils, 0, .inl rfl, fun R _ => by simp [den]⟩
  · exact ⟨.sl nm o l c, b, .inr ⟨_, _, _, rfl⟩, fun R e => by simp [den, e]⟩
theorem In.bel {nm : Nat} {x : SV} (h : In nm x) {k : Nat} (hk : nm < k) : x.bel k := by
  rcases h with rfl | ⟨_, _, _, rfl⟩
  · trivial
  · exact hk

/-- **ExecveNil returns true, and nothing that lay there is changed.** -/
theorem execveNil_any (s : ByteArray) (v1 v2 : Value) (h1 : RowIn v1) (h2 : RowIn v2) (w : World) (hd : DB w) :
    Calls Tryz.prog 4 #[.string s, v1, v2] w fun e w' => e = .returned (.bool true) ∧ Below w.heap.size w w' := by
  obtain ⟨x, b4, hx, ex⟩ := h1.sv 4
  obtain ⟨y, b5, hy, ey⟩ := h2.sv 5
  obtain ⟨ob, hob, hrel⟩ := rel0 hd b4 b5
  obtain ⟨mF, l', hev, g1⟩ := l_out s.data.toList hx hy ob
  have hcall := ev_calls follows_mixed no_gor sumC_ok (by kernel_rfl) hev hrel (fun v hv => by
    simp only [List.mem_cons, List.not_mem_nil, or_false] at hv
    rcases hv with rfl | rfl | rfl
    · trivial
    · exact hx.bel (by decide : 4 < 6)
    · exact hy.bel (by decide : 5 < 6))
  have hargs : ([SV.str s.data.toList, x, y].map (den ⟨twoB b4 b5, id⟩)).toArray = #[.string s, v1, v2] := by
    simp only [List.map_cons, List.map_nil]
    rw [ex _ (by simp [twoB]), ey _ (by simp [twoB])]
    simp [den]
  rw [hargs] at hcall
  refine hcall.mono fun e' w' he => ?_
  obtain ⟨R', hP, rfl, _⟩ := he
  have h1F : 1 < mF.nxt := Nat.lt_of_lt_of_le (by decide : 1 < 6) hP.nxt
  have hR1 : R'.b 1 = 1 := (hP.ext 1 (show 1 < 6 by decide)).1
  refine ⟨by simp [den], hP.os, hP.tape, hP.output, hP.size, fun k hk => ?_⟩
  by_cases h1 : k = 1
  · obtain ⟨_, _, _, k1, _, _⟩ := hP.rel.blk 1 _ h1F g1
    rw [h1, ← hR1, k1, hR1, hob]
  · refine hP.keep k hk fun n hn => ?_
    obtain ⟨hn1, hn2⟩ := hn
    have hn' : n < 6 := hn1
    rw [m0u_get ob n (by omega)] at hn2
    by_cases h2 : n = 1
    · subst h2
      exact fun e => h1 (e.symm.trans (by simp [twoB]))
    · rw [if_neg h2] at hn2; exact absurd rfl hn2
end Go.Ev
