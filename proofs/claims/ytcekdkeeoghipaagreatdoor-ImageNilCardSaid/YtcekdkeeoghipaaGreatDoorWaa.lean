/- maker.Make as the evaluator takes it. Checkpoints as summaries; the memory ahead of a law. -/
import Derived.Test.YtcekdkeeoghipaaGreatDoorVak
import Derived.Test.YtcekdkeeoghipaaGreatDoorVai
set_option linter.unusedSimpArgs false
set_option linter.unusedVariables false
namespace Go.Ev
set_option maxRecDepth 100000
open Go.RowKit Go.Proofs Go.Proofs.YtcekdkeeoghipaaGreatDoor
variable {R : Rho} {m : Mem} {w : World}

theorem glob_size : Tryz.prog.globals.size = 4 := by kernel_rfl
theorem cells_u8 : Tryz.prog.cellsOf 5 = 1 := by kernel_rfl
noncomputable def rpOkB (r : Rp) : Bool := Rp.rec (motive := fun _ => Bool) (fun n l => Nat.beq l.length n) (fun _ _ => true) (fun n a b iha ihb => Nat.beq n (a.size + b.size) && iha && ihb) r
theorem rpOkB_spec : (r : Rp) → rpOkB r = true → r.ok
  | .lit n l, h => Nat.eq_of_beq_eq_true h
  | .rep n v, _ => trivial
  | .cat n a b, h => by
    have h : (Nat.beq n (a.size + b.size) && rpOkB a && rpOkB b) = true := h
    simp only [Bool.and_eq_true] at h
    exact ⟨Nat.eq_of_beq_eq_true h.1.1, rpOkB_spec a h.1.2, rpOkB_spec b h.2⟩
noncomputable def rpNums (r : Rp) : Bool := Rp.rec (motive := fun _ => Bool) (fun _ l => l.all isNum) (fun _ v => isNum v) (fun _ _ _ iha ihb => iha && ihb) r
theorem rpNums_spec : (r : Rp) → rpNums r = true → ∀ v ∈ r.toList, isNum v = true
  | .lit n l, h => fun v hv => (List.all_eq_true.1 h) v hv
  | .rep n x, h => fun v hv => by
    simp only [Rp.toList, List.mem_replicate] at hv
    rw [hv.2]; exact h
  | .cat n a b, h => fun v hv => by
    have h : (rpNums a && rpNums b) = true := h
    simp only [Bool.and_eq_true] at h
    simp only [Rp.toList, List.mem_append] at hv
    exact hv.elim (rpNums_spec a h.1 v) (rpNums_spec b h.2 v)
theorem img_ok : rImg.ok := rpOkB_spec _ (by kernel_rfl)
theorem img_nums : ∀ v ∈ rImg.toList, isNum v = true := rpNums_spec _ (by kernel_rfl)
theorem l2_nums : ∀ v ∈ l2, isNum v = true := by intro v hv; simp only [l2, List.mem_cons, List.not_mem_nil, or_false] at hv; rcases hv with rfl | rfl <;> rfl
theorem l1_nums : ∀ v ∈ l1, isNum v = true := by intro v hv; simp only [l1, List.mem_cons, List.not_mem_nil, or_false] at hv; subst hv; rfl

/-- A row of numbers, told again. -/
theorem cells_again {R R' : Rho} {nm nm' : Nat} {r r' : Rp} {opn : Bool} {o : Option Obj} (hl : r'.toList = r.toList) (hn : ∀ v ∈ r.toList, isNum v = true) (hk : R'.k nm' = R.k nm)
    (h : cellsRel Tryz.prog R nm r 5 opn false o) : cellsRel Tryz.prog R' nm' r' 5 opn false o := by
  obtain ⟨arr, fr, rest, h1, h2, h3, h4, h5⟩ := h
  refine ⟨arr, fr, rest, h1, ?_, h3, h4, fun ho => by rw [hk]; exact h5 ho⟩
  rw [hl, h2]
  congr 1
  exact List.map_congr_left fun v hv => ((isNum_den (hn v hv) R R').1).symm

def namesOf (x : SV) : Option (Nat × Nat) := match x with
  | .agg (.cons _ (.cons _ (.cons _ (.cons a (.cons b _))))) => match a, b with
    | .sl a _ _ _, .sl b _ _ _ => some (a, b)
    | _, _ => none
  | _ => none
noncomputable def mks (args : List SV) (m : Mem) : Option (AEnd × Mem) := match args with
  | [x] => match namesOf x with
    | some q => cond (svEq x (argOf q.1 q.2) && !Nat.beq q.1 q.2 && rowIs (m.getR q.1) l2 false && rowIs (m.getR q.2) l1 false && Nat.blt m.nxt 32768)
        (some (.ret (.tup (.cons (.slo m.nxt 0 8193 0) (.cons (.int .i64 (.ofNat 0)) (.tag .nil)))), m.new (.cells rImg 5 true false))) none
    | none => none
  | _ => none

theorem mc_get (n : Nat) (hn : n < 32768) : mc.get n = if n = 4 then .yes (.cells (.lit 2 l2) 5 false false) else if n = 5 then .yes (.cells (.lit 1 l1) 5 false false) else .no := by
  show tget (tset _ 4 (tset _ 5 tnil)) n = _
  rw [tget_tset _ _ (by omega) hn, tget_tset _ _ (by omega) hn, tget_nil]
  by_cases h4 : n = 4
  · subst h4; rfl
  · rw [if_neg (fun e => h4 e.symm), if_neg h4]
    by_cases h5 : n = 5
    · subst h5; rfl
    · rw [if_neg (fun e => h5 e.symm), if_neg h5]

theorem mkOut_eq : mkOut = (evC Tryz.prog sumA 100000).call 45 [argOf 4 5] mc := by delta mkOut; exact Eq.refl _
theorem mkIs_spec {x : Option (AEnd × Mem)} (h : mkIs x = true) : ∃ q m', x = some (.ret (.tup (.cons (.slo q 0 8193 0) (.cons (.int .i64 (.ofNat 0)) (.tag .nil)))), m') ∧
    (∃ r, m'.get 4 = .yes (.cells r 5 false false) ∧ r.toList = l2) ∧ (∃ r, m'.get 5 = .yes (.cells r 5 false false) ∧ r.toList = l1) ∧ ∃ r, m'.get q = .yes (.cells r 5 true false) ∧ r.toList = rImg.toList := by
  unfold mkIs at h
  split at h
  · rename_i q m'
    simp only [Bool.and_eq_true, Mem.getR_eq] at h
    exact ⟨q, m', rfl, rowIs_spec h.1.1, rowIs_spec h.1.2, rowIs_spec h.2⟩
  · cases h
theorem mk_out : ∃ q m', (ev Tryz.prog sumA 100000).call 45 [argOf 4 5] mc = some (.ret (.tup (.cons (.slo q 0 8193 0) (.cons (.int .i64 (.ofNat 0)) (.tag .nil)))), m') ∧
    (∃ r, m'.get 4 = .yes (.cells r 5 false false) ∧ r.toList = l2) ∧ (∃ r, m'.get 5 = .yes (.cells r 5 false false) ∧ r.toList = l1) ∧ ∃ r, m'.get q = .yes (.cells r 5 true false) ∧ r.toList = rImg.toList := by
  rw [← evC_eq, ← mkOut_eq]
  exact mkIs_spec mk_eval

theorem mks_ok {args : List SV} {e : AEnd} {m' : Mem} (hs : mks args m = some (e, m')) (h : Rel Tryz.prog R m w) (hb : ∀ v ∈ args, v.bel m.nxt) : CallRes Tryz.prog ((callFunc 45 (args.map (den R)).toArray).run Tryz.prog w) (EndOK Tryz.prog R m w e m') := by
  unfold mks at hs
  split at hs
  · rename_i x
    cases hq : namesOf x with
    | none => rw [hq] at hs; cases hs
    | some q =>
      obtain ⟨a, b⟩ := q
      rw [hq] at hs
      simp only at hs
      cases hc : (svEq x (argOf a b) && !Nat.beq a b && rowIs (m.getR a) l2 false && rowIs (m.getR b) l1 false && Nat.blt m.nxt 32768) with
      | false => rw [hc] at hs; cases hs
      | true =>
        rw [hc] at hs
        simp only [cond_true, Option.some.injEq, Prod.mk.injEq] at hs
        obtain ⟨rfl, rfl⟩ := hs
        simp only [Bool.and_eq_true, Mem.getR_eq] at hc
        obtain ⟨⟨⟨⟨c1, c2⟩, c3⟩, c4⟩, c5⟩ := hc
        have hx := svEq_eq _ _ c1
        subst hx
        have hab : a ≠ b := fun e => by rw [e, Nat.beq_refl] at c2; cases c2
        have hnx : m.nxt < 32768 := by simpa using c5
        obtain ⟨ra, ga, la⟩ := rowIs_spec c3
        obtain ⟨rb, gb, lb⟩ := rowIs_spec c4
        have hbel : (argOf a b).bel m.nxt := hb _ (by simp)
        have ha : a < m.nxt := hbel.2.2.2.1
        have hbb : b < m.nxt := hbel.2.2.2.2.1
        have live_of : ∀ {X : Mem} {n : Nat} {b : Blk}, n < X.nxt → X.get n = .yes b → X.live n := fun h1 h2 => ⟨h1, by rw [h2]; exact fun e => by cases e⟩
        have hla := live_of ha ga
        have hlb := live_of hbb gb
        have hRab : R.b a ≠ R.b b := fun e => hab (h.inj a b hla hlb e)
        let Rc : Rho := ⟨fun n => if n = 4 then R.b a else if n = 5 then R.b b else n, fun n => if n = 4 then R.k a else if n = 5 then R.k b else n⟩
        have hRc4 : Rc.b 4 = R.b a := rfl
        have hRc5 : Rc.b 5 = R.b b := rfl
        have hmc : ∀ n, n < 6 → ∀ bl, mc.get n = .yes bl → n = 4 ∧ bl = .cells (.lit 2 l2) 5 false false ∨ n = 5 ∧ bl = .cells (.lit 1 l1) 5 false false := fun n hn bl hg => by
          rw [mc_get n (by omega)] at hg
          by_cases h4 : n = 4
          · rw [if_pos h4] at hg; cases hg; exact .inl ⟨h4, rfl⟩
          · rw [if_neg h4] at hg
            by_cases h5 : n = 5
            · rw [if_pos h5] at hg; cases hg; exact .inr ⟨h5, rfl⟩
            · rw [if_neg h5] at hg; cases hg
        have hmlive : ∀ n, mc.live n → n = 4 ∨ n = 5 := fun n ⟨h1, h2⟩ => by
          cases hg : mc.get n with
          | no => exact absurd hg h2
          | yes bl => exact (hmc n h1 bl hg).imp (·.1) (·.1)
        have relc : Rel Tryz.prog Rc mc w := by
          refine ⟨by decide, fun g hg => ?_, by rw [glob_size]; decide, fun i j hi hj e => ?_, fun n bl hn hg => ?_, fun n bl hn hg => ?_, fun n hn hn2 => ?_⟩
          · rw [glob_size] at hg
            show (if g = 4 then R.b a else if g = 5 then R.b b else g) = g
            rw [if_neg (by omega), if_neg (by omega)]
          · rcases hmlive i hi with rfl | rfl <;> rcases hmlive j hj with rfl | rfl
            · rfl
            · exact absurd e hRab
            · exact absurd e.symm hRab
            · rfl
          · rcases hmc n hn bl hg with ⟨_, rfl⟩ | ⟨_, rfl⟩
            · exact ⟨rfl, fun v hv => (isNum_den (l2_nums v hv) R R).2 _⟩
            · exact ⟨rfl, fun v hv => (isNum_den (l1_nums v hv) R R).2 _⟩
          · rcases hmc n hn bl hg with ⟨rfl, rfl⟩ | ⟨rfl, rfl⟩
            · exact cells_again (r := ra) (nm := a) la.symm (by rw [la]; exact l2_nums) rfl (h.blk a _ ha ga)
            · exact cells_again (r := rb) (nm := b) lb.symm (by rw [lb]; exact l1_nums) rfl (h.blk b _ hbb gb)
          · have hn' : 6 ≤ n := hn
            rw [mc_get n hn2, if_neg (by omega), if_neg (by omega)]
        obtain ⟨q, mF, hev, ⟨r4, g4, e4⟩, ⟨r5, g5, e5⟩, ⟨rq, gq, eq⟩⟩ := mk_out
        have hcall := ev_calls follows_mixed no_gor sumA_ok (by kernel_rfl) hev relc (fun v hv => by
          simp only [List.mem_cons, List.not_mem_nil, or_false] at hv
          subst hv
          exact ⟨trivial, trivial, trivial, (by decide : (4 : Nat) < 6), (by decide : (5 : Nat) < 6), trivial, trivial, trivial, trivial, trivial, trivial, trivial, trivial, trivial⟩)
        have hargs : ([argOf 4 5].map (den Rc)).toArray = ([argOf a b].map (den R)).toArray := by simp [argOf, den, denL, Rc]
        rw [hargs] at hcall
        refine calls_res (by kernel_rfl) (hcall.mono fun e' w' he => ?_)
        obtain ⟨R', hP, rfl, hvb⟩ := he
        have hqn : q < mF.nxt := hvb.1
        have h4n : 4 < mF.nxt := Nat.lt_of_lt_of_le (by decide : 4 < 6) hP.nxt
        have h5n : 5 < mF.nxt := Nat.lt_of_lt_of_le (by decide : 5 < 6) hP.nxt
        have hq4 : q ≠ 4 := fun e => by rw [e, g4] at gq; cases gq
        have hq5 : q ≠ 5 := fun e => by rw [e, g5] at gq; cases gq
        have hR4 : R'.b 4 = R.b a := (hP.ext 4 (by decide)).1
        have hR5 : R'.b 5 = R.b b := (hP.ext 5 (by decide)).1
        have hK4 : R'.k 4 = R.k a := (hP.ext 4 (by decide)).2
        have hK5 : R'.k 5 = R.k b := (hP.ext 5 (by decide)).2
        have lq := live_of hqn gq
        have hfresh : w.heap.size ≤ R'.b q := by
          rcases hP.new q lq with ⟨k, hk, ek⟩ | hge
          · rcases hmlive k hk with rfl | rfl
            · exact absurd (hP.rel.inj q 4 lq (live_of h4n g4) (ek.trans (hRc4.trans hR4.symm))) hq4
            · exact absurd (hP.rel.inj q 5 lq (live_of h5n g5) (ek.trans (hRc5.trans hR5.symm))) hq5
          · exact hge
        let R2 : Rho := ⟨fun n => if n = m.nxt then R'.b q else R.b n, fun n => if n = m.nxt then R'.k q else R.k n⟩
        have hext : R.ext R2 m.nxt := fun n hn => by
          have : n ≠ m.nxt := by omega
          exact ⟨if_neg this, if_neg this⟩
        have hnew : R2.b m.nxt = R'.b q := if_pos rfl
        have hnewk : R2.k m.nxt = R'.k q := if_pos rfl
        have hlim := h.lim
        have hlive : ∀ n, (m.new (.cells rImg 5 true false)).live n → n ≠ m.nxt → m.live n := fun n hn hne => by
          obtain ⟨h1, h2⟩ := hn
          have h1' : n < m.nxt + 1 := h1
          refine ⟨by omega, fun e => h2 ?_⟩
          rw [Mem.get_new _ hnx (by omega), if_neg (fun e => hne e.symm)]
          exact e
        -- what lay there lies there
        have hold : ∀ n, m.live n → n ≠ a → n ≠ b → w'.heap[R.b n]? = w.heap[R.b n]? := fun n hn h1 h2 => by
          refine hP.keep _ (h.block_lt hn) fun k hk e => ?_
          rcases hmlive k hk with rfl | rfl
          · exact h1 (h.inj n a hn hla e.symm)
          · exact h2 (h.inj n b hn hlb e.symm)
        refine ⟨R2, ⟨⟨by show m.nxt + 1 ≤ _; omega, fun g hg => ?_, ?_, fun i j hi hj e => ?_, fun n bl hn hg => ?_, fun n bl hn hg => ?_, fun n hn hn2 => ?_⟩, hext, by show m.nxt ≤ m.nxt + 1; omega, hP.size, fun k hk hno => ?_, fun n hn => ?_, hP.os, hP.tape, hP.output⟩, ?_, ?_⟩
        · have := h.gl
          rw [(hext g (by omega)).1]
          exact h.glob g hg
        · have := h.gl
          show _ ≤ m.nxt + 1
          omega
        · by_cases hi0 : i = m.nxt
          · by_cases hj0 : j = m.nxt
            · omega
            · have hjl := hlive j hj hj0
              have := h.block_lt hjl
              rw [hi0, hnew, (hext j hjl.1).1] at e
              omega
          · have hil := hlive i hi hi0
            by_cases hj0 : j = m.nxt
            · have := h.block_lt hil
              rw [hj0, hnew, (hext i hil.1).1] at e
              omega
            · have hjl := hlive j hj hj0
              rw [(hext i hil.1).1, (hext j hjl.1).1] at e
              exact h.inj i j hil hjl e
        · have hn' : n < m.nxt + 1 := hn
          rw [Mem.get_new _ hnx (by omega)] at hg
          by_cases hn0 : m.nxt = n
          · rw [if_pos hn0] at hg
            cases hg
            exact ⟨img_ok, fun v hv => (isNum_den (img_nums v hv) R R).2 _⟩
          · rw [if_neg hn0] at hg
            exact Blk.ok_mono (Nat.le_succ _) (h.ok n bl (by omega) hg)
        · have hn' : n < m.nxt + 1 := hn
          rw [Mem.get_new _ hnx (by omega)] at hg
          by_cases hn0 : m.nxt = n
          · rw [if_pos hn0] at hg
            cases hg
            subst hn0
            rw [hnew]
            exact cells_again (r := rq) (nm := q) eq.symm (by rw [eq]; exact img_nums) hnewk (hP.rel.blk q _ hqn gq)
          · rw [if_neg hn0] at hg
            have hnl : n < m.nxt := by omega
            rw [(hext n hnl).1]
            by_cases hna : n = a
            · subst hna
              rw [ga] at hg
              cases hg
              have := hP.rel.blk 4 _ h4n g4
              rw [hR4] at this
              exact cells_again (r := r4) (nm := 4) (la.trans e4.symm) (by rw [e4]; exact l2_nums) ((hext n hnl).2.trans hK4.symm) this
            · by_cases hnb : n = b
              · subst hnb
                rw [gb] at hg
                cases hg
                have := hP.rel.blk 5 _ h5n g5
                rw [hR5] at this
                exact cells_again (r := r5) (nm := 5) (lb.trans e5.symm) (by rw [e5]; exact l1_nums) ((hext n hnl).2.trans hK5.symm) this
              · rw [hold n (live_of hnl hg) hna hnb]
                exact blkRel.ext hext hnl (h.ok n bl hnl hg) (h.blk n bl hnl hg)
        · have hn' : m.nxt + 1 ≤ n := hn
          rw [Mem.get_new _ hnx hn2, if_neg (by omega)]
          exact h.top n (by omega) hn2
        · refine hP.keep k hk fun j hj e => ?_
          rcases hmlive j hj with rfl | rfl
          · exact hno a hla e
          · exact hno b hlb e
        · by_cases hn0 : n = m.nxt
          · exact .inr (by rw [hn0, hnew]; exact hfresh)
          · have hl := hlive n hn hn0
            exact .inl ⟨n, hl, (hext n hl.1).1⟩
        · simp [den, denL, hnew, hnewk]
        · exact ⟨Nat.lt_succ_self _, trivial, trivial⟩
  · cases hs
end Go.Ev
namespace Go.Ev
set_option maxRecDepth 100000
open Go.RowKit Go.Proofs Go.Proofs.YtcekdkeeoghipaaGreatDoor
variable {R : Rho} {m : Mem} {w : World}

abbrev Sums := FuncId → Option (List SV → Mem → Option (AEnd × Mem))
/-- A summary's words, with what was said before. -/
noncomputable def orElseS (g : List SV → Mem → Option (AEnd × Mem)) (o : Option (List SV → Mem → Option (AEnd × Mem))) (a : List SV) (m : Mem) : Option (AEnd × Mem) := match g a m with
  | some r => some r
  | none => match o with
    | some k => k a m
    | none => none
noncomputable def addS (F : FuncId) (g : List SV → Mem → Option (AEnd × Mem)) (s : Sums) (f : FuncId) : Option (List SV → Mem → Option (AEnd × Mem)) := cond (Nat.beq f F) (some (orElseS g (s f))) (s f)
theorem addS_ok {P : Program} {F : FuncId} {g : List SV → Mem → Option (AEnd × Mem)} {s : Sums} (hs : SumOK P s)
    (hg : ∀ (args : List SV) (m : Mem) (e : AEnd) (m' : Mem), g args m = some (e, m') → ∀ (R : Rho) (w : World), Rel P R m w → (∀ v ∈ args, v.bel m.nxt) → CallRes P ((callFunc F (args.map (den R)).toArray).run P w) (EndOK P R m w e m')) : SumOK P (addS F g s) := by
  intro f k hf args m e m' hk R w h hb
  unfold addS at hf
  cases h1 : Nat.beq f F with
  | false =>
    rw [h1, cond_false] at hf
    exact hs f k hf args m e m' hk R w h hb
  | true =>
    rw [h1, cond_true, Option.some.injEq] at hf
    subst hf
    unfold orElseS at hk
    cases hg1 : g args m with
    | some r =>
      rw [hg1] at hk
      simp only [Option.some.injEq] at hk
      subst hk
      have := Nat.eq_of_beq_eq_true h1
      subst this
      exact hg args m e m' hg1 R w h hb
    | none =>
      rw [hg1] at hk
      cases hs1 : s f with
      | none => rw [hs1] at hk; cases hk
      | some k2 =>
        rw [hs1] at hk
        exact hs f k2 hs1 args m e m' hk R w h hb

noncomputable def sumB : Sums := addS 45 mks sumA
theorem sumB_ok : SumOK Tryz.prog sumB := addS_ok sumA_ok fun _ _ _ _ hg _ _ h hb => mks_ok hg h hb
def tabl : List SV := []
/-- The memory ahead of a law: the table of math/bits. -/
noncomputable def m0t (ob : Obj) : Mem := ⟨4, tset (.yes (.tab tabl ob)) 1 tnil⟩
/-- True, and the table as it was. -/
noncomputable def resOf (x : Option (AEnd × Mem)) : Option Obj := match x with
  | some (.ret (.bool b), m) => cond b (match m.getR 1 with
    | .yes (.tab _ ob) => some ob
    | _ => none) none
  | _ => none
theorem resOf_spec {x : Option (AEnd × Mem)} {ob : Obj} (h : resOf x = some ob) : ∃ m l, x = some (.ret (.bool true), m) ∧ m.get 1 = .yes (.tab l ob) := by
  unfold resOf at h
  split at h
  · rename_i b m
    cases b with
    | false => cases h
    | true =>
      rw [cond_true, Mem.getR_eq] at h
      split at h
      · rename_i l ob' hg
        simp only [Option.some.injEq] at h
        subst h
        exact ⟨m, l, rfl, hg⟩
      · cases h
  · cases h
/-- A call at its checkpoint. -/
noncomputable def cpOut (s : Sums) (F : FuncId) (c : Cp) (ob : Obj) : Option (AEnd × Mem) := (evC Tryz.prog s 100000).call F c.args (c.base tabl ob)
theorem cp_ok {s : Sums} (hs : SumOK Tryz.prog s) {F : FuncId} {c : Cp} (he : (fun ob => c.is (cpOut s F c ob)) = fun ob => some ob) (hf : c.fit = true) : SumOK Tryz.prog (addS F (c.sum tabl) s) := by
  refine addS_ok hs fun args m e m' hg R w h hb => Cp.ok follows_mixed no_gor hs (n := 100000) (fun ob => ?_) hf hg h hb
  have := Cp.is_spec (congrFun he ob)
  unfold cpOut at this
  rw [evC_eq] at this
  exact this
end Go.Ev
