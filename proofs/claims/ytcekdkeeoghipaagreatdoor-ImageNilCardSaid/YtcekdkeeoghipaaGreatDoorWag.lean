/- hostellaw22.works, evaluated. hostellaw22: what is called with nothing, evaluated. -/
import Derived.Test.YtcekdkeeoghipaaGreatDoorWaf
set_option linter.unusedSimpArgs false
set_option linter.unusedVariables false
namespace Go.Ev
set_option maxRecDepth 100000
open Go.RowKit Go.Proofs Go.Proofs.YtcekdkeeoghipaaGreatDoor
variable {R : Rho} {m : Mem} {w : World}

noncomputable def wOut (ob : Obj) : Option (AEnd × Mem) := (evC Tryz.prog su22_2 100000).call 7 [] (m0t ob)
/-- **hostellaw22.works, evaluated.** -/
theorem w_eval : (fun ob => resOf (wOut ob)) = fun ob => some ob := by kernel_rfl
theorem wOut_eq (ob : Obj) : wOut ob = (evC Tryz.prog su22_2 100000).call 7 [] (m0t ob) := by delta wOut; exact Eq.refl _
theorem w_out (ob : Obj) : ∃ m l, (ev Tryz.prog su22_2 100000).call 7 [] (m0t ob) = some (.ret (.bool true), m) ∧ m.get 1 = .yes (.tab l ob) := by
  rw [← evC_eq, ← wOut_eq]
  exact resOf_spec (congrFun w_eval ob)
end Go.Ev
namespace Go.Ev
set_option maxRecDepth 100000
open Go.RowKit Go.Proofs Go.Proofs.YtcekdkeeoghipaaGreatDoor
variable {R : Rho} {m : Mem} {w : World}

noncomputable def outIs (x : Option (AEnd × Mem)) (v : SV) : Bool := match x with
  | some (.ret u, _) => svSame u v
  | _ => false
theorem outIs_spec {x : Option (AEnd × Mem)} {v : SV} (h : outIs x v = true) : ∃ m, x = some (.ret v, m) := by
  unfold outIs at h
  split at h
  · rw [svSame_eq h]; exact ⟨_, rfl⟩
  · cases h
/-- A memory in which nothing is told. -/
noncomputable def m00 : Mem := ⟨8, tnil⟩
def planNil : SV := .agg (.cons (.tag .nils) (.cons (.tag .nils) (.cons (.int .u64 0) (.cons (.int .u64 0) (.cons (.int .u32 0) (.cons (.int .u32 0) (.cons (.int .u32 0) (.cons (.int .u32 0) (.cons (.tag .nils) (.cons (.bool false) (.cons (.tag .nils) (.tag .nil))))))))))))
noncomputable def mnOut (u0 u1 u2 u3 : Int) (G : SV) (s : List UInt8) (x y : SV) : Option (AEnd × Mem) := (evC Tryz.prog sumB 100000).call 8 [.tag .nilp, .agg (.cons (.int .u32 u0) (.cons (.int .u32 u1) (.cons (.int .u32 u2) (.cons (.int .u32 u3) (.cons G (.tag .nil)))))), .str s, x, y] m00
theorem mn_eval : (fun u0 u1 u2 u3 G s x y => outIs (mnOut u0 u1 u2 u3 G s x y) (.tup (.cons planNil (.cons (.int .i64 2) (.tag .nil))))) = fun _ _ _ _ _ _ _ _ => true := by kernel_rfl
noncomputable def spOut : Option (AEnd × Mem) := (evC Tryz.prog sumB 100000).call 10 [planNil, planNil] m00
theorem sp_eval : outIs spOut (.bool true) = true := by kernel_rfl
noncomputable def bnOut (a n : Int) : Option (AEnd × Mem) := (evC Tryz.prog sumB 100000).call 9 [.tag .nilp, planNil, .int .u64 a, .int .i64 n] m00
theorem bn_eval : (fun a n => outIs (bnOut a n) (.tup (.cons (.tag .nils) (.cons (.int .i64 2) (.tag .nil))))) = fun _ _ => true := by kernel_rfl
theorem mn_out (u0 u1 u2 u3 : Int) (G : SV) (s : List UInt8) (x y : SV) : ∃ m, (ev Tryz.prog sumB 100000).call 8 [.tag .nilp, .agg (.cons (.int .u32 u0) (.cons (.int .u32 u1) (.cons (.int .u32 u2) (.cons (.int .u32 u3) (.cons G (.tag .nil)))))), .str s, x, y] m00 = some (.ret (.tup (.cons planNil (.cons (.int .i64 2) (.tag .nil)))), m) := by
  rw [← evC_eq]
  have h : outIs (mnOut u0 u1 u2 u3 G s x y) _ = true := congrFun (congrFun (congrFun (congrFun (congrFun (congrFun (congrFun (congrFun mn_eval u0) u1) u2) u3) G) s) x) y
  exact outIs_spec h
theorem sp_out : ∃ m, (ev Tryz.prog sumB 100000).call 10 [planNil, planNil] m00 = some (.ret (.bool true), m) := by
  rw [← evC_eq]
  exact outIs_spec sp_eval
theorem bn_out (a n : Int) : ∃ m, (ev Tryz.prog sumB 100000).call 9 [.tag .nilp, planNil, .int .u64 a, .int .i64 n] m00 = some (.ret (.tup (.cons (.tag .nils) (.cons (.int .i64 2) (.tag .nil)))), m) := by
  rw [← evC_eq]
  have h : outIs (bnOut a n) _ = true := congrFun (congrFun bn_eval a) n
  exact outIs_spec h

/-- A call that looks at nothing that lies there. -/
theorem free_calls {f : FuncId} {args : List SV} {v : SV} {mF : Mem} (hb : hasBody Tryz.prog f = true) (hev : (ev Tryz.prog sumB 100000).call f args m00 = some (.ret v, mF)) (hg : ∀ g, g < 4 → R.b g = g) (ha : ∀ v ∈ args, v.bel 8) :
    Calls Tryz.prog f (args.map (den R)).toArray w fun e w' => ∃ R', e = .returned (den R' v) ∧ Below w.heap.size w w' := by
  have get0 : ∀ n, n < 32768 → m00.get n = .no := fun n hn => tget_nil n
  have hrel : Rel Tryz.prog R m00 w := by
    refine ⟨(show 8 ≤ 32768 by decide), fun g h => hg g (by rw [glob_size] at h; exact h), by rw [glob_size]; exact (by decide : 4 ≤ 8), fun i j hi _ _ => ?_, fun n bl hn h => ?_, fun n bl hn h => ?_, fun n _ hn => get0 n hn⟩
    · exact absurd (get0 i (Nat.lt_trans hi.1 (by decide : 8 < 32768))) hi.2
    · rw [get0 n (Nat.lt_trans hn (by decide : 8 < 32768))] at h; cases h
    · rw [get0 n (Nat.lt_trans hn (by decide : 8 < 32768))] at h; cases h
  have hcall := ev_calls follows_mixed no_gor sumB_ok hb hev hrel ha
  refine hcall.mono fun e' w' he => ?_
  obtain ⟨R', hP, rfl, _⟩ := he
  exact ⟨R', rfl, hP.os, hP.tape, hP.output, hP.size, fun k hk => hP.keep k hk fun n hn => absurd (get0 n (Nat.lt_trans hn.1 (by decide : 8 < 32768))) hn.2⟩

/-- A row that comes in, by the name nm. -/
def In (nm : Nat) (x : SV) : Prop := x = .tag .nils ∨ ∃ o l c, x = .sl nm o l c
/-- What a row of the door is: none, or one that lies in a block as a whole. -/
def RowIn (v : Value) : Prop := v = .slice none 0 0 ∨ ∃ b o l c, v = .slice (some ⟨b, o, none⟩) l c
theorem RowIn.sv {v : Value} (h : RowIn v) (nm : Nat) : ∃ x b, In nm x ∧ ∀ R : Rho, R.b nm = b → den R x = v := by
  rcases h with rfl | ⟨b, o, l, c, rfl⟩
  · exact ⟨.tag .nils, 0, .inl rfl, fun R _ => by simp [den]⟩
  · exact ⟨.sl nm o l c, b, .inr ⟨_, _, _, rfl⟩, fun R e => by simp [den, e]⟩
theorem In.bel {nm : Nat} {x : SV} (h : In nm x) {k : Nat} (hk : nm < k) : x.bel k := by
  rcases h with rfl | ⟨_, _, _, rfl⟩
  · trivial
  · exact hk
def planV : Value := .agg #[.slice none 0 0, .slice none 0 0, .int .u64 0, .int .u64 0, .int .u32 0, .int .u32 0, .int .u32 0, .int .u32 0, .slice none 0 0, .bool false, .slice none 0 0]
theorem planNil_den : den R planNil = planV := by simp [planNil, planV, den, denL]
def threeB (b4 b5 b6 n : Nat) : Nat := if n = 4 then b4 else if n = 5 then b5 else if n = 6 then b6 else n
/-- image.Make of no files. -/
theorem makeNil_any (u0 u1 u2 u3 : Int) (G X Y : Value) (s : ByteArray) (hG : RowIn G) (hX : RowIn X) (hY : RowIn Y) (w : World) :
    Calls Tryz.prog 8 #[.pointer none, .agg #[.int .u32 u0, .int .u32 u1, .int .u32 u2, .int .u32 u3, G], .string s, X, Y] w fun e w' => e = .returned (.tuple #[planV, .int .i64 2]) ∧ Below w.heap.size w w' := by
  obtain ⟨g, b4, hg, eg⟩ := hG.sv 4
  obtain ⟨x, b5, hx, ex⟩ := hX.sv 5
  obtain ⟨y, b6, hy, ey⟩ := hY.sv 6
  obtain ⟨mF, hev⟩ := mn_out u0 u1 u2 u3 g s.data.toList x y
  have hcall := free_calls (R := ⟨threeB b4 b5 b6, id⟩) (w := w) (by kernel_rfl) hev (fun k hk => by show threeB b4 b5 b6 k = k; unfold threeB; rw [if_neg (by omega), if_neg (by omega), if_neg (by omega)]) (fun v hv => by
    simp only [List.mem_cons, List.not_mem_nil, or_false] at hv
    rcases hv with rfl | rfl | rfl | rfl | rfl
    · trivial
    · exact ⟨trivial, trivial, trivial, trivial, hg.bel (by decide), trivial⟩
    · trivial
    · exact hx.bel (by decide)
    · exact hy.bel (by decide))
  have hargs : ([SV.tag .nilp, .agg (.cons (.int .u32 u0) (.cons (.int .u32 u1) (.cons (.int .u32 u2) (.cons (.int .u32 u3) (.cons g (.tag .nil)))))), .str s.data.toList, x, y].map (den ⟨threeB b4 b5 b6, id⟩)).toArray = #[.pointer none, .agg #[.int .u32 u0, .int .u32 u1, .int .u32 u2, .int .u32 u3, G], .string s, X, Y] := by
    simp only [List.map_cons, List.map_nil]
    rw [ex _ (by simp [threeB]), ey _ (by simp [threeB])]
    simp [den, denL, eg ⟨threeB b4 b5 b6, id⟩ (by simp [threeB])]
  rw [hargs] at hcall
  refine hcall.mono fun e w' he => ?_
  obtain ⟨R', rfl, hb⟩ := he
  exact ⟨by simp [den, denL, planNil_den], hb⟩
/-- image.Bytes of no files. -/
theorem bytesNil_any (a n : Int) (w : World) : Calls Tryz.prog 9 #[.pointer none, planV, .int .u64 a, .int .i64 n] w fun e w' => e = .returned (.tuple #[.slice none 0 0, .int .i64 2]) ∧ Below w.heap.size w w' := by
  obtain ⟨mF, hev⟩ := bn_out a n
  have hcall := free_calls (R := ⟨id, id⟩) (w := w) (by kernel_rfl) hev (fun _ _ => rfl) (fun v hv => by
    simp only [List.mem_cons, List.not_mem_nil, or_false] at hv
    rcases hv with rfl | rfl | rfl | rfl
    · trivial
    · simp [planNil, SV.bel]
    · trivial
    · trivial)
  have hargs : ([SV.tag .nilp, planNil, .int .u64 a, .int .i64 n].map (den ⟨id, id⟩)).toArray = #[.pointer none, planV, .int .u64 a, .int .i64 n] := by
    simp only [List.map_cons, List.map_nil, planNil_den]
    simp [den]
  rw [hargs] at hcall
  refine hcall.mono fun e w' he => ?_
  obtain ⟨R', rfl, hb⟩ := he
  exact ⟨by simp [den, denL], hb⟩
/-- The empty plan is the empty plan. -/
theorem samePlan_any (w : World) : Calls Tryz.prog 10 #[planV, planV] w fun e w' => e = .returned (.bool true) ∧ Below w.heap.size w w' := by
  obtain ⟨mF, hev⟩ := sp_out
  have hcall := free_calls (R := ⟨id, id⟩) (w := w) (by kernel_rfl) hev (fun _ _ => rfl) (fun v hv => by
    simp only [List.mem_cons, List.not_mem_nil, or_false] at hv
    rcases hv with rfl | rfl <;> simp [planNil, SV.bel])
  have hargs : ([planNil, planNil].map (den ⟨id, id⟩)).toArray = #[planV, planV] := by
    simp only [List.map_cons, List.map_nil, planNil_den]
  rw [hargs] at hcall
  refine hcall.mono fun e w' he => ?_
  obtain ⟨R', rfl, hb⟩ := he
  exact ⟨by simp [den], hb⟩

theorem m0t_get (ob : Obj) (n : Nat) (hn : n < 32768) : (m0t ob).get n = if n = 1 then .yes (.tab tabl ob) else .no := by
  show tget (tset _ 1 tnil) n = _
  rw [tget_tset _ _ (by omega) hn, tget_nil]
  by_cases h1 : n = 1
  · subst h1; rfl
  · rw [if_neg (fun e => h1 e.symm), if_neg h1]
/-- **works: an image is made at all.** -/
theorem works_any (w : World) {arr : Array Value} {el : TypeId} {fr : Nat × Nat} (hob : w.heap[1]? = some (.cells arr el fr)) : Calls Tryz.prog 7 #[] w fun e w' => e = .returned (.bool true) ∧ Below w.heap.size w w' := by
  have hlive : ∀ n, (m0t (.cells arr el fr)).live n → n = 1 := fun n ⟨h1, h2⟩ => by
    have h1' : n < 4 := h1
    rw [m0t_get _ n (by omega)] at h2
    by_cases h1 : n = 1
    · exact h1
    · rw [if_neg h1] at h2; exact absurd rfl h2
  have hrel : Rel Tryz.prog ⟨id, id⟩ (m0t (.cells arr el fr)) w := by
    refine ⟨(show 4 ≤ 32768 by decide), fun g _ => rfl, by rw [glob_size]; exact Nat.le_refl 4, fun i j hi hj _ => (hlive i hi).trans (hlive j hj).symm, fun n bl hn hg => ?_, fun n bl hn hg => ?_, fun n hn hn2 => ?_⟩
    · have hn' : n < 4 := hn
      rw [m0t_get _ n (by omega)] at hg
      by_cases h1 : n = 1
      · rw [if_pos h1] at hg; cases hg
        exact fun v hv => by cases hv
      · rw [if_neg h1] at hg; cases hg
    · have hn' : n < 4 := hn
      rw [m0t_get _ n (by omega)] at hg
      by_cases h1 : n = 1
      · rw [if_pos h1] at hg; cases hg
        subst h1
        exact ⟨arr, el, fr, hob, rfl, fun j v hv => by cases hv⟩
      · rw [if_neg h1] at hg; cases hg
    · have hn' : 4 ≤ n := hn
      rw [m0t_get _ n hn2, if_neg (by omega)]
  obtain ⟨mF, l', hev, g1⟩ := w_out (.cells arr el fr)
  have hcall := ev_calls follows_mixed no_gor su22_2_ok (by kernel_rfl) hev hrel (fun v hv => by cases hv)
  have h0 : (([] : List SV).map (den ⟨id, id⟩)).toArray = #[] := rfl
  rw [h0] at hcall
  refine hcall.mono fun e' w' he => ?_
  obtain ⟨R', hP, rfl, _⟩ := he
  have h1F : 1 < mF.nxt := Nat.lt_of_lt_of_le (by decide : 1 < 4) hP.nxt
  have hR1 : R'.b 1 = 1 := (hP.ext 1 (show 1 < 4 by decide)).1
  refine ⟨by simp [den], hP.os, hP.tape, hP.output, hP.size, fun k hk => ?_⟩
  by_cases h1 : k = 1
  · obtain ⟨_, _, _, k1, _, _⟩ := hP.rel.blk 1 _ h1F g1
    rw [h1, ← hR1, k1, hR1, hob]
  · exact hP.keep k hk fun n hn => by rw [hlive n hn]; exact fun e => h1 e.symm
end Go.Ev
