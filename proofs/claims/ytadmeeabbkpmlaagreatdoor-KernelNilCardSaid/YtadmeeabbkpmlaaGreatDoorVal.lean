/- maker.Make as the evaluator takes it. Checkpoints as summaries; the memory ahead of a law. regions.Put, as the evaluator takes it: its row is a new one. What the evaluator takes from contracts, regions.Put among it. -/
import Derived.Test.YtadmeeabbkpmlaaGreatDoorVak
import Derived.Test.YtadmeeabbkpmlaaGreatDoorVai
import Derived.Test.YtadmeeabbkpmlaaGreatDoorRegO
set_option linter.unusedSimpArgs false
set_option linter.unusedVariables false
namespace Go.Ev
set_option maxRecDepth 100000
open Go.RowKit Go.Proofs Go.Proofs.YtadmeeabbkpmlaaGreatDoor
variable {R : Rho} {m : Mem} {w : World}

theorem glob_size : Tryz.prog.globals.size = 4 := by kernel_rfl
theorem cells_u8 : Tryz.prog.cellsOf 5 = 1 := by kernel_rfl
noncomputable def rpOkB (r : Rp) : Bool := Rp.rec (motive := fun _ => Bool) (fun n l => Nat.beq l.length n) (fun _ _ => true) (fun n a b iha ihb => Nat.beq n (a.size + b.size) && iha && ihb) r
theorem rpOkB_spec : (r : Rp) → rpOkB r = true → r.ok
  | .lit n l, h => Nat.eq_of_beq_eq_true h
  | .rep n v, _ => trivial
  | .cat n a b, h => by
    have h : (Nat.beq n (a.size + b.size) && rpOkB a && rpOkB b) = true := h
    simp only [Bool.and_eq_true] at h
    exact ⟨Nat.eq_of_beq_eq_true h.1.1, rpOkB_spec a h.1.2, rpOkB_spec b h.2⟩
noncomputable def rpNums (r : Rp) : Bool := Rp.rec (motive := fun _ => Bool) (fun _ l => l.all isNum) (fun _ v => isNum v) (fun _ _ _ iha ihb => iha && ihb) r
theorem rpNums_spec : (r : Rp) → rpNums r = true → ∀ v ∈ r.toList, isNum v = true
  | .lit n l, h => fun v hv => (List.all_eq_true.1 h) v hv
  | .rep n x, h => fun v hv => by
    simp only [Rp.toList, List.mem_replicate] at hv
    rw [hv.2]; exact h
  | .cat n a b, h => fun v hv => by
    have h : (rpNums a && rpNums b) = true := h
    simp only [Bool.and_eq_true] at h
    simp only [Rp.toList, List.mem_append] at hv
    exact hv.elim (rpNums_spec a h.1 v) (rpNums_spec b h.2 v)
theorem img_ok : rImg.ok := rpOkB_spec _ (by kernel_rfl)
theorem img_nums : ∀ v ∈ rImg.toList, isNum v = true := rpNums_spec _ (by kernel_rfl)
theorem l2_nums : ∀ v ∈ l2, isNum v = true := by intro v hv; simp only [l2, List.mem_cons, List.not_mem_nil, or_false] at hv; rcases hv with rfl | rfl <;> rfl
theorem l1_nums : ∀ v ∈ l1, isNum v = true := by intro v hv; simp only [l1, List.mem_cons, List.not_mem_nil, or_false] at hv; subst hv; rfl

/-- A row of numbers, told again. -/
theorem cells_again {R R' : Rho} {nm nm' : Nat} {r r' : Rp} {opn : Bool} {o : Option Obj} (hl : r'.toList = r.toList) (hn : ∀ v ∈ r.toList, isNum v = true) (hk : R'.k nm' = R.k nm)
    (h : cellsRel Tryz.prog R nm r 5 opn false o) : cellsRel Tryz.prog R' nm' r' 5 opn false o := by
  obtain ⟨arr, fr, rest, h1, h2, h3, h4, h5⟩ := h
  refine ⟨arr, fr, rest, h1, ?_, h3, h4, fun ho => by rw [hk]; exact h5 ho⟩
  rw [hl, h2]
  congr 1
  exact List.map_congr_left fun v hv => ((isNum_den (hn v hv) R R').1).symm

def namesOf (x : SV) : Option (Nat × Nat) := match x with
  | .agg (.cons _ (.cons _ (.cons _ (.cons a (.cons b _))))) => match a, b with
    | .sl a _ _ _, .sl b _ _ _ => some (a, b)
    | _, _ => none
  | _ => none
noncomputable def mks (args : List SV) (m : Mem) : Option (AEnd × Mem) := match args with
  | [x] => match namesOf x with
    | some q => cond (svEq x (argOf q.1 q.2) && !Nat.beq q.1 q.2 && rowIs (m.getR q.1) l2 false && rowIs (m.getR q.2) l1 false && Nat.blt m.nxt 32768)
        (some (.ret (.tup (.cons (.slo m.nxt 0 8193 0) (.cons (.int .i64 (.ofNat 0)) (.tag .nil)))), m.new (.cells rImg 5 true false))) none
    | none => none
  | _ => none

theorem mc_get (n : Nat) (hn : n < 32768) : mc.get n = if n = 4 then .yes (.cells (.lit 2 l2) 5 false false) else if n = 5 then .yes (.cells (.lit 1 l1) 5 false false) else .no := by
  show tget (tset _ 4 (tset _ 5 tnil)) n = _
  rw [tget_tset _ _ (by omega) hn, tget_tset _ _ (by omega) hn, tget_nil]
  by_cases h4 : n = 4
  · subst h4; rfl
  · rw [if_neg (fun e => h4 e.symm), if_neg h4]
    by_cases h5 : n = 5
    · subst h5; rfl
    · rw [if_neg (fun e => h5 e.symm), if_neg h5]

theorem mkOut_eq : mkOut = (evC Tryz.prog sumA 100000).call 24 [argOf 4 5] mc := by delta mkOut; exact Eq.refl _
theorem mkIs_spec {x : Option (AEnd × Mem)} (h : mkIs x = true) : ∃ q m', x = some (.ret (.tup (.cons (.slo q 0 8193 0) (.cons (.int .i64 (.ofNat 0)) (.tag .nil)))), m') ∧
    (∃ r, m'.get 4 = .yes (.cells r 5 false false) ∧ r.toList = l2) ∧ (∃ r, m'.get 5 = .yes (.cells r 5 false false) ∧ r.toList = l1) ∧ ∃ r, m'.get q = .yes (.cells r 5 true false) ∧ r.toList = rImg.toList := by
  unfold mkIs at h
  split at h
  · rename_i q m'
    simp only [Bool.and_eq_true, Mem.getR_eq] at h
    exact ⟨q, m', rfl, rowIs_spec h.1.1, rowIs_spec h.1.2, rowIs_spec h.2⟩
  · cases h
theorem mk_out : ∃ q m', (ev Tryz.prog sumA 100000).call 24 [argOf 4 5] mc = some (.ret (.tup (.cons (.slo q 0 8193 0) (.cons (.int .i64 (.ofNat 0)) (.tag .nil)))), m') ∧
    (∃ r, m'.get 4 = .yes (.cells r 5 false false) ∧ r.toList = l2) ∧ (∃ r, m'.get 5 = .yes (.cells r 5 false false) ∧ r.toList = l1) ∧ ∃ r, m'.get q = .yes (.cells r 5 true false) ∧ r.toList = rImg.toList := by
  rw [← evC_eq, ← mkOut_eq]
  exact mkIs_spec mk_eval

theorem mks_ok {args : List SV} {e : AEnd} {m' : Mem} (hs : mks args m = some (e, m')) (h : Rel Tryz.prog R m w) (hb : ∀ v ∈ args, v.bel m.nxt) : CallRes Tryz.prog ((callFunc 24 (args.map (den R)).toArray).run Tryz.prog w) (EndOK Tryz.prog R m w e m') := by
  unfold mks at hs
  split at hs
  · rename_i x
    cases hq : namesOf x with
    | none => rw [hq] at hs; cases hs
    | some q =>
      obtain ⟨a, b⟩ := q
      rw [hq] at hs
      simp only at hs
      cases hc : (svEq x (argOf a b) && !Nat.beq a b && rowIs (m.getR a) l2 false && rowIs (m.getR b) l1 false && Nat.blt m.nxt 32768) with
      | false => rw [hc] at hs; cases hs
      | true =>
        rw [hc] at hs
        simp only [cond_true, Option.some.injEq, Prod.mk.injEq] at hs
        obtain ⟨rfl, rfl⟩ := hs
        simp only [Bool.and_eq_true, Mem.getR_eq] at hc
        obtain ⟨⟨⟨⟨c1, c2⟩, c3⟩, c4⟩, c5⟩ := hc
        have hx := svEq_eq _ _ c1
        subst hx
        have hab : a ≠ b := fun e => by rw [e, Nat.beq_refl] at c2; cases c2
        have hnx : m.nxt < 32768 := by simpa using c5
        obtain ⟨ra, ga, la⟩ := rowIs_spec c3
        obtain ⟨rb, gb, lb⟩ := rowIs_spec c4
        have hbel : (argOf a b).bel m.nxt := hb _ (by simp)
        have ha : a < m.nxt := hbel.2.2.2.1
        have hbb : b < m.nxt := hbel.2.2.2.2.1
        have live_of : ∀ {X : Mem} {n : Nat} {b : Blk}, n < X.nxt → X.get n = .yes b → X.live n := fun h1 h2 => ⟨h1, by rw [h2]; exact fun e => by cases e⟩
        have hla := live_of ha ga
        have hlb := live_of hbb gb
        have hRab : R.b a ≠ R.b b := fun e => hab (h.inj a b hla hlb e)
        let Rc : Rho := ⟨fun n => if n = 4 then R.b a else if n = 5 then R.b b else n, fun n => if n = 4 then R.k a else if n = 5 then R.k b else n⟩
        have hRc4 : Rc.b 4 = R.b a := rfl
        have hRc5 : Rc.b 5 = R.b b := rfl
        have hmc : ∀ n, n < 6 → ∀ bl, mc.get n = .yes bl → n = 4 ∧ bl = .cells (.lit 2 l2) 5 false false ∨ n = 5 ∧ bl = .cells (.lit 1 l1) 5 false false := fun n hn bl hg => by
          rw [mc_get n (by omega)] at hg
          by_cases h4 : n = 4
          · rw [if_pos h4] at hg; cases hg; exact .inl ⟨h4, rfl⟩
          · rw [if_neg h4] at hg
            by_cases h5 : n = 5
            · rw [if_pos h5] at hg; cases hg; exact .inr ⟨h5, rfl⟩
            · rw [if_neg h5] at hg; cases hg
        have hmlive : ∀ n, mc.live n → n = 4 ∨ n = 5 := fun n ⟨h1, h2⟩ => by
          cases hg : mc.get n with
          | no => exact absurd hg h2
          | yes bl => exact (hmc n h1 bl hg).imp (·.1) (·.1)
        have relc : Rel Tryz.prog Rc mc w := by
          refine ⟨by decide, fun g hg => ?_, by rw [glob_size]; decide, fun i j hi hj e => ?_, fun n bl hn hg => ?_, fun n bl hn hg => ?_, fun n hn hn2 => ?_⟩
          · rw [glob_size] at hg
            show (if g = 4 then R.b a else if g = 5 then R.b b else g) = g
            rw [if_neg (by omega), if_neg (by omega)]
          · rcases hmlive i hi with rfl | rfl <;> rcases hmlive j hj with rfl | rfl
            · rfl
            · exact absurd e hRab
            · exact absurd e.symm hRab
            · rfl
          · rcases hmc n hn bl hg with ⟨_, rfl⟩ | ⟨_, rfl⟩
            · exact ⟨rfl, fun v hv => (isNum_den (l2_nums v hv) R R).2 _⟩
            · exact ⟨rfl, fun v hv => (isNum_den (l1_nums v hv) R R).2 _⟩
          · rcases hmc n hn bl hg with ⟨rfl, rfl⟩ | ⟨rfl, rfl⟩
            · exact cells_again (r := ra) (nm := a) la.symm (by rw [la]; exact l2_nums) rfl (h.blk a _ ha ga)
            · exact cells_again (r := rb) (nm := b) lb.symm (by rw [lb]; exact l1_nums) rfl (h.blk b _ hbb gb)
          · have hn' : 6 ≤ n := hn
            rw [mc_get n hn2, if_neg (by omega), if_neg (by omega)]
        obtain ⟨q, mF, hev, ⟨r4, g4, e4⟩, ⟨r5, g5, e5⟩, ⟨rq, gq, eq⟩⟩ := mk_out
        have hcall := ev_calls follows_mixed no_gor sumA_ok (by kernel_rfl) hev relc (fun v hv => by
          simp only [List.mem_cons, List.not_mem_nil, or_false] at hv
          subst hv
          exact ⟨trivial, trivial, trivial, (by decide : (4 : Nat) < 6), (by decide : (5 : Nat) < 6), trivial, trivial, trivial, trivial, trivial, trivial, trivial, trivial, trivial⟩)
        have hargs : ([argOf 4 5].map (den Rc)).toArray = ([argOf a b].map (den R)).toArray := by simp [argOf, den, denL, Rc]
        rw [hargs] at hcall
        refine calls_res (by kernel_rfl) (hcall.mono fun e' w' he => ?_)
        obtain ⟨R', hP, rfl, hvb⟩ := he
        have hqn : q < mF.nxt := hvb.1
        have h4n : 4 < mF.nxt := Nat.lt_of_lt_of_le (by decide : 4 < 6) hP.nxt
        have h5n : 5 < mF.nxt := Nat.lt_of_lt_of_le (by decide : 5 < 6) hP.nxt
        have hq4 : q ≠ 4 := fun e => by rw [e, g4] at gq; cases gq
        have hq5 : q ≠ 5 := fun e => by rw [e, g5] at gq; cases gq
        have hR4 : R'.b 4 = R.b a := (hP.ext 4 (by decide)).1
        have hR5 : R'.b 5 = R.b b := (hP.ext 5 (by decide)).1
        have hK4 : R'.k 4 = R.k a := (hP.ext 4 (by decide)).2
        have hK5 : R'.k 5 = R.k b := (hP.ext 5 (by decide)).2
        have lq := live_of hqn gq
        have hfresh : w.heap.size ≤ R'.b q := by
          rcases hP.new q lq with ⟨k, hk, ek⟩ | hge
          · rcases hmlive k hk with rfl | rfl
            · exact absurd (hP.rel.inj q 4 lq (live_of h4n g4) (ek.trans (hRc4.trans hR4.symm))) hq4
            · exact absurd (hP.rel.inj q 5 lq (live_of h5n g5) (ek.trans (hRc5.trans hR5.symm))) hq5
          · exact hge
        let R2 : Rho := ⟨fun n => if n = m.nxt then R'.b q else R.b n, fun n => if n = m.nxt then R'.k q else R.k n⟩
        have hext : R.ext R2 m.nxt := fun n hn => by
          have : n ≠ m.nxt := by omega
          exact ⟨if_neg this, if_neg this⟩
        have hnew : R2.b m.nxt = R'.b q := if_pos rfl
        have hnewk : R2.k m.nxt = R'.k q := if_pos rfl
        have hlim := h.lim
        have hlive : ∀ n, (m.new (.cells rImg 5 true false)).live n → n ≠ m.nxt → m.live n := fun n hn hne => by
          obtain ⟨h1, h2⟩ := hn
          have h1' : n < m.nxt + 1 := h1
          refine ⟨by omega, fun e => h2 ?_⟩
          rw [Mem.get_new _ hnx (by omega), if_neg (fun e => hne e.symm)]
          exact e
        -- what lay there lies there
        have hold : ∀ n, m.live n → n ≠ a → n ≠ b → w'.heap[R.b n]? = w.heap[R.b n]? := fun n hn h1 h2 => by
          refine hP.keep _ (h.block_lt hn) fun k hk e => ?_
          rcases hmlive k hk with rfl | rfl
          · exact h1 (h.inj n a hn hla e.symm)
          · exact h2 (h.inj n b hn hlb e.symm)
        refine ⟨R2, ⟨⟨by show m.nxt + 1 ≤ _; omega, fun g hg => ?_, ?_, fun i j hi hj e => ?_, fun n bl hn hg => ?_, fun n bl hn hg => ?_, fun n hn hn2 => ?_⟩, hext, by show m.nxt ≤ m.nxt + 1; omega, hP.size, fun k hk hno => ?_, fun n hn => ?_, hP.os, hP.tape, hP.output⟩, ?_, ?_⟩
        · have := h.gl
          rw [(hext g (by omega)).1]
          exact h.glob g hg
        · have := h.gl
          show _ ≤ m.nxt + 1
          omega
        · by_cases hi0 : i = m.nxt
          · by_cases hj0 : j = m.nxt
            · omega
            · have hjl := hlive j hj hj0
              have := h.block_lt hjl
              rw [hi0, hnew, (hext j hjl.1).1] at e
              omega
          · have hil := hlive i hi hi0
            by_cases hj0 : j = m.nxt
            · have := h.block_lt hil
              rw [hj0, hnew, (hext i hil.1).1] at e
              omega
            · have hjl := hlive j hj hj0
              rw [(hext i hil.1).1, (hext j hjl.1).1] at e
              exact h.inj i j hil hjl e
        · have hn' : n < m.nxt + 1 := hn
          rw [Mem.get_new _ hnx (by omega)] at hg
          by_cases hn0 : m.nxt = n
          · rw [if_pos hn0] at hg
            cases hg
            exact ⟨img_ok, fun v hv => (isNum_den (img_nums v hv) R R).2 _⟩
          · rw [if_neg hn0] at hg
            exact Blk.ok_mono (Nat.le_succ _) (h.ok n bl (by omega) hg)
        · have hn' : n < m.nxt + 1 := hn
          rw [Mem.get_new _ hnx (by omega)] at hg
          by_cases hn0 : m.nxt = n
          · rw [if_pos hn0] at hg
            cases hg
            subst hn0
            rw [hnew]
            exact cells_again (r := rq) (nm := q) eq.symm (by rw [eq]; exact img_nums) hnewk (hP.rel.blk q _ hqn gq)
          · rw [if_neg hn0] at hg
            have hnl : n < m.nxt := by omega
            rw [(hext n hnl).1]
            by_cases hna : n = a
            · subst hna
              rw [ga] at hg
              cases hg
              have := hP.rel.blk 4 _ h4n g4
              rw [hR4] at this
              exact cells_again (r := r4) (nm := 4) (la.trans e4.symm) (by rw [e4]; exact l2_nums) ((hext n hnl).2.trans hK4.symm) this
            · by_cases hnb : n = b
              · subst hnb
                rw [gb] at hg
                cases hg
                have := hP.rel.blk 5 _ h5n g5
                rw [hR5] at this
                exact cells_again (r := r5) (nm := 5) (lb.trans e5.symm) (by rw [e5]; exact l1_nums) ((hext n hnl).2.trans hK5.symm) this
              · rw [hold n (live_of hnl hg) hna hnb]
                exact blkRel.ext hext hnl (h.ok n bl hnl hg) (h.blk n bl hnl hg)
        · have hn' : m.nxt + 1 ≤ n := hn
          rw [Mem.get_new _ hnx hn2, if_neg (by omega)]
          exact h.top n (by omega) hn2
        · refine hP.keep k hk fun j hj e => ?_
          rcases hmlive j hj with rfl | rfl
          · exact hno a hla e
          · exact hno b hlb e
        · by_cases hn0 : n = m.nxt
          · exact .inr (by rw [hn0, hnew]; exact hfresh)
          · have hl := hlive n hn hn0
            exact .inl ⟨n, hl, (hext n hl.1).1⟩
        · simp [den, denL, hnew, hnewk]
        · exact ⟨Nat.lt_succ_self _, trivial, trivial⟩
  · cases hs
end Go.Ev
namespace Go.Ev
set_option maxRecDepth 100000
open Go.RowKit Go.Proofs Go.Proofs.YtadmeeabbkpmlaaGreatDoor
variable {R : Rho} {m : Mem} {w : World}

abbrev Sums := FuncId → Option (List SV → Mem → Option (AEnd × Mem))
/-- A summary's words, with what was said before. -/
noncomputable def orElseS (g : List SV → Mem → Option (AEnd × Mem)) (o : Option (List SV → Mem → Option (AEnd × Mem))) (a : List SV) (m : Mem) : Option (AEnd × Mem) := match g a m with
  | some r => some r
  | none => match o with
    | some k => k a m
    | none => none
noncomputable def addS (F : FuncId) (g : List SV → Mem → Option (AEnd × Mem)) (s : Sums) (f : FuncId) : Option (List SV → Mem → Option (AEnd × Mem)) := cond (Nat.beq f F) (some (orElseS g (s f))) (s f)
theorem addS_ok {P : Program} {F : FuncId} {g : List SV → Mem → Option (AEnd × Mem)} {s : Sums} (hs : SumOK P s)
    (hg : ∀ (args : List SV) (m : Mem) (e : AEnd) (m' : Mem), g args m = some (e, m') → ∀ (R : Rho) (w : World), Rel P R m w → (∀ v ∈ args, v.bel m.nxt) → CallRes P ((callFunc F (args.map (den R)).toArray).run P w) (EndOK P R m w e m')) : SumOK P (addS F g s) := by
  intro f k hf args m e m' hk R w h hb
  unfold addS at hf
  cases h1 : Nat.beq f F with
  | false =>
    rw [h1, cond_false] at hf
    exact hs f k hf args m e m' hk R w h hb
  | true =>
    rw [h1, cond_true, Option.some.injEq] at hf
    subst hf
    unfold orElseS at hk
    cases hg1 : g args m with
    | some r =>
      rw [hg1] at hk
      simp only [Option.some.injEq] at hk
      subst hk
      have := Nat.eq_of_beq_eq_true h1
      subst this
      exact hg args m e m' hg1 R w h hb
    | none =>
      rw [hg1] at hk
      cases hs1 : s f with
      | none => rw [hs1] at hk; cases hk
      | some k2 =>
        rw [hs1] at hk
        exact hs f k2 hs1 args m e m' hk R w h hb

noncomputable def sumB : Sums := addS 24 mks sumA
theorem sumB_ok : SumOK Tryz.prog sumB := addS_ok sumA_ok fun _ _ _ _ hg _ _ h hb => mks_ok hg h hb
def tabl : List SV := [b8 0, b8 1, b8 56, b8 2, b8 57, b8 49, b8 28, b8 3, b8 61, b8 58, b8 42, b8 50, b8 38, b8 29, b8 17, b8 4, b8 62, b8 47, b8 59, b8 36, b8 45, b8 43, b8 51, b8 22, b8 53, b8 39, b8 33, b8 30, b8 24, b8 18, b8 12, b8 5, b8 63, b8 55, b8 48, b8 27, b8 60, b8 41, b8 37, b8 16, b8 46, b8 35, b8 44, b8 21, b8 52, b8 32, b8 23, b8 11, b8 54, b8 26, b8 40, b8 15, b8 34, b8 20, b8 31, b8 10, b8 25, b8 14, b8 19, b8 9, b8 13, b8 8, b8 7, b8 6]
/-- The memory ahead of a law: the table of math/bits. -/
noncomputable def m0t (ob : Obj) : Mem := ⟨4, tset (.yes (.tab tabl ob)) 1 tnil⟩
/-- True, and the table as it was. -/
noncomputable def resOf (x : Option (AEnd × Mem)) : Option Obj := match x with
  | some (.ret (.bool b), m) => cond b (match m.getR 1 with
    | .yes (.tab _ ob) => some ob
    | _ => none) none
  | _ => none
theorem resOf_spec {x : Option (AEnd × Mem)} {ob : Obj} (h : resOf x = some ob) : ∃ m l, x = some (.ret (.bool true), m) ∧ m.get 1 = .yes (.tab l ob) := by
  unfold resOf at h
  split at h
  · rename_i b m
    cases b with
    | false => cases h
    | true =>
      rw [cond_true, Mem.getR_eq] at h
      split at h
      · rename_i l ob' hg
        simp only [Option.some.injEq] at h
        subst h
        exact ⟨m, l, rfl, hg⟩
      · cases h
  · cases h
/-- A call at its checkpoint. -/
noncomputable def cpOut (s : Sums) (F : FuncId) (c : Cp) (ob : Obj) : Option (AEnd × Mem) := (evC Tryz.prog s 100000).call F c.args (c.base tabl ob)
theorem cp_ok {s : Sums} (hs : SumOK Tryz.prog s) {F : FuncId} {c : Cp} (he : (fun ob => c.is (cpOut s F c ob)) = fun ob => some ob) (hf : c.fit = true) : SumOK Tryz.prog (addS F (c.sum tabl) s) := by
  refine addS_ok hs fun args m e m' hg R w h hb => Cp.ok follows_mixed no_gor hs (n := 100000) (fun ob => ?_) hf hg h hb
  have := Cp.is_spec (congrFun he ob)
  unfold cpOut at this
  rw [evC_eq] at this
  exact this
end Go.Ev
namespace Go.Ev
set_option maxRecDepth 100000
open Go.RowKit Go.Proofs Go.Proofs.YtadmeeabbkpmlaaGreatDoor
variable {P : Program} {R : Rho} {m : Mem} {w : World}

/-- A block that a call has made gets a name. -/
theorem Rel.named {w' : World} (h : Rel P R m w) (hbw : Below w.heap.size w w') (hl : m.nxt < 32768) (b : Blk) (g κ : Nat) (hg : w.heap.size ≤ g) (hb : b.ok (m.nxt + 1))
    (hr : ∀ R', R.ext R' m.nxt → R'.b m.nxt = g → R'.k m.nxt = κ → blkRel P R' m.nxt b w'.heap[g]?) :
    ∃ R', R'.b m.nxt = g ∧ R'.k m.nxt = κ ∧ Post P R m w R' (m.new b) w' := by
  refine ⟨⟨fun n => if n = m.nxt then g else R.b n, fun n => if n = m.nxt then κ else R.k n⟩, by simp, by simp, ?_⟩
  have hext : R.ext ⟨fun n => if n = m.nxt then g else R.b n, fun n => if n = m.nxt then κ else R.k n⟩ m.nxt := fun n hn => by
    have : n ≠ m.nxt := by omega
    simp [this]
  have hlive : ∀ n, (m.new b).live n → n ≠ m.nxt → m.live n := fun n hn hne => by
    obtain ⟨h1, h2⟩ := hn
    have h1' : n < m.nxt + 1 := h1
    refine ⟨by omega, fun e => h2 ?_⟩
    rw [Mem.get_new b hl (by omega), if_neg (fun e => hne e.symm)]
    exact e
  have hold : ∀ k, k < w.heap.size → w'.heap[k]? = w.heap[k]? := fun k hk => hbw.block k hk
  refine ⟨⟨by show m.nxt + 1 ≤ _; omega, fun g hg => ?_, ?_, ?_, ?_, ?_, fun n hn hn2 => (by have hn' : m.nxt + 1 ≤ n := hn; rw [Mem.get_new b hl hn2, if_neg (by omega)]; exact h.top n (by omega) hn2)⟩, hext, ?_, hbw.size, ?_, ?_, hbw.os, hbw.tape, hbw.output⟩
  · have := h.gl
    rw [(hext g (by omega)).1]
    exact h.glob g hg
  · have := h.gl
    show _ ≤ m.nxt + 1
    omega
  · intro n k hn hk e
    by_cases hn0 : n = m.nxt
    · by_cases hk0 : k = m.nxt
      · omega
      · have := h.block_lt (hlive k hk hk0)
        simp only [hn0, hk0, if_true, if_false] at e
        omega
    · by_cases hk0 : k = m.nxt
      · have := h.block_lt (hlive n hn hn0)
        simp only [hn0, hk0, if_true, if_false] at e
        omega
      · simp only [hn0, hk0, if_false] at e
        exact h.inj n k (hlive n hn hn0) (hlive k hk hk0) e
  · intro n b' hn hg
    have hn' : n < m.nxt + 1 := hn
    rw [Mem.get_new b hl (by omega)] at hg
    by_cases hn0 : m.nxt = n
    · rw [if_pos hn0] at hg
      cases hg
      exact hb
    · rw [if_neg hn0] at hg
      exact Blk.ok_mono (Nat.le_succ _) (h.ok n b' (by omega) hg)
  · intro n b' hn hg
    have hn' : n < m.nxt + 1 := hn
    rw [Mem.get_new b hl (by omega)] at hg
    by_cases hn0 : m.nxt = n
    · rw [if_pos hn0] at hg
      cases hg
      subst hn0
      have := hr _ hext (by simp) (by simp)
      simpa using this
    · rw [if_neg hn0] at hg
      have hnl : n < m.nxt := by omega
      have hlt := h.block_lt (n := n) ⟨hnl, by rw [hg]; exact fun e => by cases e⟩
      have hb' := blkRel.ext hext hnl (h.ok n b' hnl hg) (h.blk n b' hnl hg)
      rw [(hext n hnl).1]
      show blkRel P _ n b' w'.heap[R.b n]?
      rw [hold _ hlt]
      exact hb'
  · show m.nxt ≤ m.nxt + 1
    omega
  · exact fun k hk _ => hold k hk
  · intro n hn
    by_cases hn0 : n = m.nxt
    · exact .inr (by simp [hn0]; exact hg)
    · exact .inl ⟨n, hlive n hn hn0, by simp [hn0]⟩

def regOf : SV → Option Reg
  | .agg (.cons (.int .u64 a) (.cons (.int .u64 b) (.cons (.int .u8 c) (.cons (.int .i64 d) (.cons (.int .u64 e) (.tag .nil)))))) => some ⟨a, b, c, d, e⟩
  | _ => none
def regsOf : List SV → Option (List Reg)
  | [] => some []
  | .int .u64 a :: .int .u64 b :: .int .u8 c :: .int .i64 d :: .int .u64 e :: l => match regsOf l with
    | some r => some (⟨a, b, c, d, e⟩ :: r)
    | none => none
  | _ => none
def regSV (r : Reg) : List SV := [.int .u64 r.fr, .int .u64 r.to, .int .u8 r.prot, .int .i64 r.ino, .int .u64 r.off]
theorem regOf_eq {x : SV} {r : Reg} (h : regOf x = some r) : x = .agg (.cons (.int .u64 r.fr) (.cons (.int .u64 r.to) (.cons (.int .u8 r.prot) (.cons (.int .i64 r.ino) (.cons (.int .u64 r.off) (.tag .nil)))))) := by
  unfold regOf at h
  split at h
  · simp only [Option.some.injEq] at h
    subst h
    rfl
  · cases h
theorem regsOf_eq : ∀ (l : List SV) (rs : List Reg), regsOf l = some rs → l = rs.flatMap regSV := by
  intro l
  induction l using regsOf.induct with
  | case1 =>
    intro rs h
    simp only [regsOf, Option.some.injEq] at h
    subst h
    rfl
  | case2 a b c d e l r hr ih =>
    intro rs h
    simp only [regsOf, hr, Option.some.injEq] at h
    subst h
    rw [List.flatMap_cons, ← ih r hr]
    rfl
  | case3 a b c d e l hr ih =>
    intro rs h
    simp only [regsOf, hr] at h
    cases h
  | case4 l h1 h2 =>
    intro rs h
    exfalso
    unfold regsOf at h
    split at h
    · exact h1 rfl
    · exact h2 _ _ _ _ _ _ rfl
    · cases h
def regOk (r : Reg) : Bool := decide (0 ≤ r.fr) && decide (r.fr ≤ 18446744073709551615) && decide (0 ≤ r.to) && decide (r.to ≤ 18446744073709551615) && decide (0 ≤ r.prot) && decide (r.prot ≤ 255) && decide (-9223372036854775808 ≤ r.ino) && decide (r.ino ≤ 9223372036854775807) && decide (0 ≤ r.off) && decide (r.off ≤ 18446744073709551615)
theorem regOk_ok {r : Reg} (h : regOk r = true) : r.Ok := by
  simp only [regOk, Bool.and_eq_true, decide_eq_true_eq] at h
  obtain ⟨⟨⟨⟨⟨⟨⟨⟨⟨a, b⟩, c⟩, d⟩, e⟩, f⟩, g⟩, i⟩, j⟩, k⟩ := h
  exact ⟨a, b, c, d, e, f, g, i, j, k⟩
theorem flat_len (l : List Reg) : (l.flatMap regSV).length = l.length * 5 := by
  induction l with
  | nil => rfl
  | cons r l ih => rw [List.flatMap_cons, List.length_append, ih, List.length_cons]; simp [regSV]; omega
theorem flat_get {l : List Reg} {k : Nat} {r : Reg} (h : l[k]? = some r) (j : Nat) (hj : j < 5) : (l.flatMap regSV)[k * 5 + j]? = (regSV r)[j]? := by
  induction l generalizing k with
  | nil => simp at h
  | cons x l ih =>
    rw [List.flatMap_cons]
    cases k with
    | zero =>
      simp at h
      subst h
      rw [Nat.zero_mul, Nat.zero_add, List.getElem?_append_left (by simp [regSV]; exact hj)]
    | succ k =>
      simp at h
      rw [List.getElem?_append_right (by simp [regSV]; omega)]
      have e : (k + 1) * 5 + j - (regSV x).length = k * 5 + j := by simp [regSV]; omega
      rw [e]
      exact ih h
theorem flat_den (R : Rho) (l : List Reg) : (l.flatMap regSV).map (den R) = rcs l := by
  induction l with
  | nil => rfl
  | cons r l ih => rw [List.flatMap_cons, List.map_append, ih]; simp [regSV, rcs, rc, den]
theorem flat_bel (l : List Reg) (N : Nat) : ∀ v ∈ l.flatMap regSV, v.bel N := by
  intro v hv
  obtain ⟨r, _, h⟩ := List.mem_flatMap.1 hv
  simp only [regSV, List.mem_cons, List.not_mem_nil, or_false] at h
  rcases h with rfl | rfl | rfl | rfl | rfl <;> trivial

/-- The regions that a row tells. -/
noncomputable def rowRegs (m : Mem) (x : SV) : Option (List Reg) := match x with
  | .sl nm off len cap => match m.getR nm with
    | .yes (.cells r _ _ _) => cond (Nat.ble len cap && Nat.ble len 1000) (match r.list (5 * len) off with
      | some l => regsOf l
      | none => none) none
    | _ => none
  | .slo nm off len e => match m.getR nm with
    | .yes (.cells r el o _) => cond (o && Nat.beq el 179 && Nat.ble (5 * (e + len)) r.size && Nat.ble len 1000) (match r.list (5 * len) off with
      | some l => regsOf l
      | none => none) none
    | _ => none
  | _ => none
theorem cells_reg : Tryz.prog.cellsOf 179 = 5 := by kernel_rfl
theorem row_list (h : Rel Tryz.prog R m w) {nm off len : Nat} {r : Rp} {el : TypeId} {o s : Bool} {q : List SV} {l : List Reg} (hnm : nm < m.nxt) (hg : m.get nm = .yes (.cells r el o s)) (hl : r.list (5 * len) off = some q) (hq : regsOf q = some l) {cap : Nat} (hc : len ≤ cap) (hf : len ≤ 1000) :
    RSl w w.heap.size (some ⟨R.b nm, off, none⟩) len cap l := by
  have hok := (h.ok nm _ hnm hg).1
  have hqe := regsOf_eq q l hq
  have hfl := flat_len l
  have hlt := h.block_lt ⟨hnm, by rw [hg]; exact fun e => by cases e⟩
  rcases Rp.list_eq hok hl with ⟨k1, k2⟩ | ⟨k1, k2⟩
  · have hlen : q.length = 5 * len := by
      rw [k2, List.length_take, List.length_drop, Rp.length hok]
      omega
    have hll : l.length = len := by rw [hqe] at hlen; omega
    refine ⟨hll, hc, by omega, fun k x hx => ⟨R.b nm, off, rfl, hlt, ?_⟩⟩
    have hk : k < l.length := (List.getElem?_eq_some_iff.1 hx).1
    have key : ∀ j, j < 5 → ∀ v, (regSV x)[j]? = some v → w.cell? ⟨R.b nm, off + k * 5 + j, none⟩ = some (den R v) := fun j hj v hv => by
      refine (h.cell hnm hg ?_).1
      have e1 := flat_get hx j hj
      rw [← hqe, k2, List.getElem?_take, if_pos (by omega), List.getElem?_drop, hv] at e1
      rw [show off + k * 5 + j = off + (k * 5 + j) by omega]
      exact e1
    exact ⟨by simpa [den] using key 0 (by omega) (.int .u64 x.fr) rfl, by simpa [den] using key 1 (by omega) (.int .u64 x.to) rfl, by simpa [den] using key 2 (by omega) (.int .u8 x.prot) rfl, by simpa [den] using key 3 (by omega) (.int .i64 x.ino) rfl, by simpa [den] using key 4 (by omega) (.int .u64 x.off) rfl⟩
  · have hl0 : l.length = 0 := by rw [hqe] at k2; rw [k2] at hfl; have : ([] : List SV).length = 0 := rfl; omega
    have hln : len = 0 := by omega
    subst hln
    refine ⟨hl0, hc, by omega, fun k x hx => ?_⟩
    have := (List.getElem?_eq_some_iff.1 hx).1
    omega
theorem rowRegs_spec (h : Rel Tryz.prog R m w) {x : SV} (hx : x.bel m.nxt) {l : List Reg} (hs : rowRegs m x = some l) : ∃ A n cap, den R x = .slice A n cap ∧ RSl w w.heap.size A n cap l := by
  unfold rowRegs at hs
  split at hs
  · rename_i nm off len cap
    rw [Mem.getR_eq] at hs
    split at hs
    · rename_i r el o s hg
      cases hc : (Nat.ble len cap && Nat.ble len 1000) with
      | false => rw [hc] at hs; cases hs
      | true =>
        rw [hc, cond_true] at hs
        simp only [Bool.and_eq_true, Nat.ble_eq] at hc
        cases hl : r.list (5 * len) off with
        | none => rw [hl] at hs; cases hs
        | some q =>
          rw [hl] at hs
          exact ⟨some ⟨R.b nm, off, none⟩, len, cap, by simp [den], row_list h hx hg hl hs hc.1 hc.2⟩
    · cases hs
  · rename_i nm off len e
    rw [Mem.getR_eq] at hs
    split at hs
    · rename_i r el o s hg
      cases hc : (o && Nat.beq el 179 && Nat.ble (5 * (e + len)) r.size && Nat.ble len 1000) with
      | false => rw [hc] at hs; cases hs
      | true =>
        rw [hc, cond_true] at hs
        simp only [Bool.and_eq_true, Nat.ble_eq] at hc
        obtain ⟨⟨⟨c1, c2⟩, c3⟩, c4⟩ := hc
        have c2 := Nat.eq_of_beq_eq_true c2
        subst c1
        subst c2
        have hnm : nm < m.nxt := hx
        have hok := (h.ok nm _ hnm hg).1
        obtain ⟨arr, fr, rest, b1, b2, _, _, b5⟩ := h.blk nm _ hnm hg
        have b6 := b5 rfl
        rw [cells_reg] at b6
        have b7 : r.size ≤ arr.size := by
          have := congrArg List.length b2
          rw [List.length_append, List.length_map, Rp.length hok] at this
          simp at this
          omega
        cases hl : r.list (5 * len) off with
        | none => rw [hl] at hs; cases hs
        | some q =>
          rw [hl] at hs
          exact ⟨some ⟨R.b nm, off, none⟩, len, R.k nm - e, by simp [den], row_list h hnm hg hl hs (by omega) c4⟩
    · cases hs
  · cases hs
noncomputable def putO (q : List Reg × Int) (m : Mem) : Option (AEnd × Mem) := cond q.1.isEmpty none (some (.ret (.tup (.cons (.slo m.nxt 0 q.1.length 0) (.cons (.int .i64 q.2) (.tag .nil)))), m.new (.cells (.lit (q.1.length * 5) (q.1.flatMap regSV)) 179 true false)))
noncomputable def putS (args : List SV) (m : Mem) : Option (AEnd × Mem) := match args with
  | [x, y] => match regOf y with
    | none => none
    | some r => match rowRegs m x with
      | none => none
      | some l => cond (regOk r && l.all regOk && Nat.blt m.nxt 32768) (putO (Rg.put l r) m) none
  | _ => none
theorem putS_ok {args : List SV} {e : AEnd} {m' : Mem} (hs : putS args m = some (e, m')) (h : Rel Tryz.prog R m w) (hb : ∀ v ∈ args, v.bel m.nxt) : CallRes Tryz.prog ((callFunc 131 (args.map (den R)).toArray).run Tryz.prog w) (EndOK Tryz.prog R m w e m') := by
  unfold putS at hs
  split at hs
  · rename_i x y
    cases hy : regOf y with
    | none => rw [hy] at hs; cases hs
    | some r =>
      rw [hy] at hs
      simp only at hs
      cases hx : rowRegs m x with
      | none => rw [hx] at hs; cases hs
      | some l =>
        rw [hx] at hs
        simp only at hs
        cases hc : (regOk r && l.all regOk && Nat.blt m.nxt 32768) with
        | false => rw [hc] at hs; cases hs
        | true =>
          rw [hc, cond_true] at hs
          simp only [Bool.and_eq_true] at hc
          obtain ⟨⟨c1, c2⟩, c3⟩ := hc
          have c3 : m.nxt < 32768 := by simpa using c3
          obtain ⟨A, n, cap, ex, hR⟩ := rowRegs_spec h (hb x (by simp)) hx
          have ey := regOf_eq hy
          have hok : AllOk l := fun x hx => regOk_ok ((List.all_eq_true.1 c2) x hx)
          have hput := put_any r A n cap w l hR hok (regOk_ok c1)
          have hargs : ([x, y].map (den R)).toArray = #[.slice A n cap, .agg #[.int .u64 r.fr, .int .u64 r.to, .int .u8 r.prot, .int .i64 r.ino, .int .u64 r.off]] := by
            simp only [List.map_cons, List.map_nil, ex, ey]
            simp [den, denL]
          rw [hargs]
          unfold putO at hs
          cases hem : (Rg.put l r).1.isEmpty with
          | true => rw [hem] at hs; cases hs
          | false =>
            rw [hem, cond_false] at hs
            simp only [Option.some.injEq, Prod.mk.injEq] at hs
            obtain ⟨rfl, rfl⟩ := hs
            refine calls_res (by kernel_rfl) (hput.mono fun e' w' he => ?_)
            obtain ⟨A', cap', rfl, ⟨hO1, hO2⟩, hbl⟩ := he
            rcases hO2 with ⟨e1, e2⟩ | ⟨g, cap0, cur, e1, e2, e3, e4, _, e6, e7⟩
            · rw [List.length_eq_zero_iff] at e2
              rw [e2] at hem
              cases hem
            · injection e1 with e11 e12 e13
              subst e13
              have hlen := flat_len (Rg.put l r).1
              obtain ⟨R', k1, k2, hP⟩ := h.named hbl c3 (.cells (.lit ((Rg.put l r).1.length * 5) ((Rg.put l r).1.flatMap regSV)) 179 true false) g cap' e2 ⟨hlen, flat_bel _ _⟩ (fun R' hext hb' hk' => by
                refine ⟨cur, (0, 0), cur.toList.drop ((Rg.put l r).1.length * 5), e3, ?_, fun e => (by cases e), .inl rfl, fun _ => by rw [hk', cells_reg, e6]⟩
                show cur.toList = ((Rg.put l r).1.flatMap regSV).map (den R') ++ _
                rw [flat_den, ← e7, List.take_append_drop])
              refine ⟨R', hP, ?_, ?_⟩
              · rw [e11]
                simp [den, denL, k1, k2]
              · exact ⟨Nat.lt_succ_self _, trivial, trivial⟩
  · cases hs
end Go.Ev
namespace Go.Ev
set_option maxRecDepth 100000
open Go.RowKit Go.Proofs Go.Proofs.YtadmeeabbkpmlaaGreatDoor
noncomputable def sumP : Sums := addS 131 putS sumB
theorem sumP_ok : SumOK Tryz.prog sumP := addS_ok sumB_ok fun _ _ _ _ hg _ _ h hb => putS_ok hg h hb
end Go.Ev
