/- The evaluator: a call at a known memory, told once: a checkpoint. The evaluator: checkpoints that touch a part of the memory. -/
import Derived.Test.YtadmeeabbkpmlaaGreatDoorVah
set_option linter.unusedSimpArgs false
set_option linter.unusedVariables false
namespace Go.Ev
variable {P : Program} {R : Rho} {m : Mem} {w : World}

noncomputable def svsEq (l : List SV) : List SV → Bool := List.rec (motive := fun _ => List SV → Bool) (fun k => List.rec (motive := fun _ => Bool) true (fun _ _ _ => false) k) (fun a _ ih k => List.rec (motive := fun _ => Bool) false (fun b k _ => cond (svEq a b) (ih k) false) k) l
theorem svsEq_eq : ∀ (l k : List SV), svsEq l k = true → l = k
  | [], [], _ => rfl
  | [], _ :: _, h => by cases h
  | _ :: _, [], h => by cases h
  | a :: l, b :: k, h => by
    have h : cond (svEq a b) (svsEq l k) false = true := h
    cases hr : svEq a b with
    | false => rw [hr] at h; cases h
    | true =>
      rw [hr] at h
      rw [svEq_eq _ _ hr, svsEq_eq l k h]
def beqB (a b : Bool) : Bool := cond a b (!b)
theorem beqB_eq {a b : Bool} (h : beqB a b = true) : a = b := by cases a <;> cases b <;> first | rfl | cases h
noncomputable def entsEq (l : List (SV × SV × Nat)) : List (SV × SV × Nat) → Bool := List.rec (motive := fun _ => List (SV × SV × Nat) → Bool) (fun k => List.rec (motive := fun _ => Bool) true (fun _ _ _ => false) k) (fun a _ ih k => List.rec (motive := fun _ => Bool) false (fun b k _ => cond (svEq a.1 b.1 && svEq a.2.1 b.2.1 && Nat.beq a.2.2 b.2.2) (ih k) false) k) l
theorem entsEq_eq : ∀ (l k : List (SV × SV × Nat)), entsEq l k = true → l = k
  | [], [], _ => rfl
  | [], _ :: _, h => by cases h
  | _ :: _, [], h => by cases h
  | a :: l, b :: k, h => by
    have h : cond (svEq a.1 b.1 && svEq a.2.1 b.2.1 && Nat.beq a.2.2 b.2.2) (entsEq l k) false = true := h
    cases hr : (svEq a.1 b.1 && svEq a.2.1 b.2.1 && Nat.beq a.2.2 b.2.2) with
    | false => rw [hr] at h; cases h
    | true =>
      rw [hr] at h
      have ih := entsEq_eq l k h
      simp only [Bool.and_eq_true] at hr
      have e1 := svEq_eq _ _ hr.1.1
      have e2 := svEq_eq _ _ hr.1.2
      have e3 := Nat.eq_of_beq_eq_true hr.2
      rw [ih]
      congr 1
      exact Prod.ext e1 (Prod.ext e2 e3)
noncomputable def rpOK (r : Rp) : Bool := Rp.rec (motive := fun _ => Bool) (fun n l => Nat.beq l.length n) (fun _ _ => true) (fun n a b iha ihb => Nat.beq n (a.size + b.size) && iha && ihb) r
theorem rpOK_spec : (r : Rp) → rpOK r = true → r.ok
  | .lit _ _, h => Nat.eq_of_beq_eq_true h
  | .rep _ _, _ => trivial
  | .cat n a b, h => by
    have h : (Nat.beq n (a.size + b.size) && rpOK a && rpOK b) = true := h
    simp only [Bool.and_eq_true] at h
    exact ⟨Nat.eq_of_beq_eq_true h.1.1, rpOK_spec a h.1.2, rpOK_spec b h.2⟩
/-- Alike: the same cells, the same entries. -/
def blkSim : Blk → Blk → Prop
  | .cells r el o s, b => ∃ r', b = .cells r' el o s ∧ r'.toList = r.toList ∧ r'.ok
  | .map es c, b => b = .map es c
  | .tab l ob, b => b = .tab l ob
  | .dfr o, b => b = .dfr o
  | _, _ => False
noncomputable def blkSame (a b : Blk) : Bool := match a, b with
  | .cells r el o s, .cells r' el' o' s' => Nat.beq el el' && beqB o o' && beqB s s' && rpOK r' && svsEq r.toList r'.toList
  | .map es c, .map es' c' => Nat.beq c c' && entsEq es es'
  | .dfr o, .dfr o' => beqB o o'
  | _, _ => false
theorem blkSame_sim {a b : Blk} (h : blkSame a b = true) : blkSim a b := by
  unfold blkSame at h
  split at h
  · simp only [Bool.and_eq_true] at h
    obtain ⟨⟨⟨⟨h1, h2⟩, h3⟩, h4⟩, h5⟩ := h
    rw [Nat.eq_of_beq_eq_true h1, beqB_eq h2, beqB_eq h3]
    exact ⟨_, rfl, (svsEq_eq _ _ h5).symm, rpOK_spec _ h4⟩
  · simp only [Bool.and_eq_true] at h
    rw [Nat.eq_of_beq_eq_true h.1, entsEq_eq _ _ h.2]
    rfl
  · rw [beqB_eq h]
    rfl
  · cases h
theorem blkSim.rel {nm : Nat} {a b : Blk} (h : blkSim a b) {o : Option Obj} (hr : blkRel P R nm a o) : blkRel P R nm b o := by
  cases a with
  | cells r el op s =>
    obtain ⟨r', rfl, h1, _⟩ := h
    obtain ⟨arr, fr, rest, k1, k2, k3⟩ := hr
    exact ⟨arr, fr, rest, k1, by rw [h1]; exact k2, k3⟩
  | map es c => have h : b = _ := h; subst h; exact hr
  | tab l ob => have h : b = _ := h; subst h; exact hr
  | dfr op => have h : b = _ := h; subst h; exact hr
  | _ => exact h.elim
theorem blkSim.okk {N : Nat} {a b : Blk} (h : blkSim a b) (hr : a.ok N) : b.ok N := by
  cases a with
  | cells r el op s =>
    obtain ⟨r', rfl, h1, h2⟩ := h
    exact ⟨h2, fun v hv => hr.2 v (by rw [← h1]; exact hv)⟩
  | map es c => have h : b = _ := h; subst h; exact hr
  | tab l ob => have h : b = _ := h; subst h; exact hr
  | dfr op => have h : b = _ := h; subst h; exact hr
  | _ => exact h.elim

noncomputable def treeOf (l : List (Nat × Blk)) : M5 := List.rec (motive := fun _ => M5) tnil (fun q _ ih => tsetR (.yes q.2) q.1 ih) l
noncomputable def memOf (N : Nat) (l : List (Nat × Blk)) : Mem := ⟨N, treeOf l⟩
def below (N : Nat) (l : List (Nat × Blk)) : Bool := l.all fun q => Nat.blt q.1 N
noncomputable def memHas (m : Mem) (l : List (Nat × Blk)) : Bool := l.all fun q => match m.getR q.1 with
  | .yes b => blkSame b q.2
  | .no => false
theorem memOf_get {N : Nat} (hN : N ≤ 32768) : ∀ (l : List (Nat × Blk)), below N l = true → ∀ n, n < 32768 → ∀ b, (memOf N l).get n = .yes b → (n, b) ∈ l
  | [], _, n, _, b, h => by
    have : (memOf N []).get n = .no := tget_nil n
    rw [this] at h; cases h
  | q :: l, hb, n, hn, b, h => by
    simp only [below, List.all_cons, Bool.and_eq_true] at hb
    have hq : q.1 < N := by simpa using hb.1
    have : (memOf N (q :: l)).get n = if q.1 = n then .yes q.2 else (memOf N l).get n := by
      show tget (tsetR (.yes q.2) q.1 (treeOf l)) n = _
      rw [tsetR_eq, tget_tset _ _ (by omega) hn]
      rfl
    rw [this] at h
    by_cases e : q.1 = n
    · rw [if_pos e] at h
      cases h
      rw [← e]
      exact List.mem_cons_self
    · rw [if_neg e] at h
      exact List.mem_cons_of_mem _ (memOf_get hN l hb.2 n hn b h)
/-- A memory that has these blocks, as the memory of just these. -/
theorem Rel.as (h : Rel P R m w) {N : Nat} (hN : m.nxt = N) {l : List (Nat × Blk)} (hb : below N l = true) (hh : memHas m l = true) : Rel P R (memOf N l) w ∧ ∀ n, (memOf N l).live n → m.live n := by
  subst hN
  have hlim := h.lim
  have key : ∀ n b, n < m.nxt → (memOf m.nxt l).get n = .yes b → ∃ b0, m.get n = .yes b0 ∧ blkSim b0 b := fun n b hn hg => by
    have hm := memOf_get hlim l hb n (by omega) b hg
    have := (List.all_eq_true.1 hh) (n, b) hm
    simp only [Mem.getR_eq] at this
    cases hg0 : m.get n with
    | no => rw [hg0] at this; cases this
    | yes b0 => rw [hg0] at this; exact ⟨b0, rfl, blkSame_sim this⟩
  have hlive : ∀ n, (memOf m.nxt l).live n → m.live n := fun n ⟨h1, h2⟩ => by
    cases hg : (memOf m.nxt l).get n with
    | no => exact absurd hg h2
    | yes b =>
      obtain ⟨b0, k1, _⟩ := key n b h1 hg
      exact ⟨h1, by rw [k1]; exact fun e => by cases e⟩
  refine ⟨⟨h.lim, h.glob, h.gl, fun i j hi hj e => h.inj i j (hlive i hi) (hlive j hj) e, fun n b hn hg => ?_, fun n b hn hg => ?_, fun n hn hn2 => ?_⟩, hlive⟩
  · obtain ⟨b0, k1, k2⟩ := key n b hn hg
    exact k2.okk (h.ok n b0 hn k1)
  · obtain ⟨b0, k1, k2⟩ := key n b hn hg
    exact k2.rel (h.blk n b0 hn k1)
  · cases hg : (memOf m.nxt l).get n with
    | no => rfl
    | yes b =>
      have hm := memOf_get hlim l hb n hn2 b hg
      have := (List.all_eq_true.1 hb) (n, b) hm
      have hlt : n < m.nxt := by simpa using this
      have hn' : m.nxt ≤ n := hn
      omega

/-- A call that is told once. -/
structure Ck where
  args : List SV
  nxt : Nat
  mem : List (Nat × Blk)
  v : SV
  nxt' : Nat
  mem' : List (Nat × Blk)
noncomputable def Ck.sum (c : Ck) (args : List SV) (m : Mem) : Option (AEnd × Mem) := cond (svsEq args c.args && Nat.beq m.nxt c.nxt && memHas m c.mem) (some (.ret c.v, memOf c.nxt' c.mem')) none
noncomputable def Ck.is (c : Ck) (x : Option (AEnd × Mem)) : Bool := match x with
  | some (.ret v, m) => svEq v c.v && Nat.beq m.nxt c.nxt' && memHas m c.mem'
  | _ => false
theorem Ck.is_spec {c : Ck} {x : Option (AEnd × Mem)} (h : c.is x = true) : ∃ m, x = some (.ret c.v, m) ∧ m.nxt = c.nxt' ∧ memHas m c.mem' = true := by
  unfold Ck.is at h
  split at h
  · rename_i v m
    simp only [Bool.and_eq_true] at h
    exact ⟨m, by rw [svEq_eq _ _ h.1.1], Nat.eq_of_beq_eq_true h.1.2, h.2⟩
  · cases h
theorem Ck.ok {c : Ck} {f : FuncId} {sum : FuncId → Option (List SV → Mem → Option (AEnd × Mem))} (hm : P.follows .mixedOrders = true) (hN : NoGor P) (hS : SumOK P sum) {n : Nat}
    (he : ∃ m', (ev P sum n).call f c.args (memOf c.nxt c.mem) = some (.ret c.v, m') ∧ m'.nxt = c.nxt' ∧ memHas m' c.mem' = true) (hb : below c.nxt c.mem = true) (hb' : below c.nxt' c.mem' = true)
    {args : List SV} {e : AEnd} {m' : Mem} (hs : c.sum args m = some (e, m')) (h : Rel P R m w) (ha : ∀ v ∈ args, v.bel m.nxt) : CallRes P ((callFunc f (args.map (den R)).toArray).run P w) (EndOK P R m w e m') := by
  unfold Ck.sum at hs
  cases hc : (svsEq args c.args && Nat.beq m.nxt c.nxt && memHas m c.mem) with
  | false => rw [hc] at hs; cases hs
  | true =>
    rw [hc] at hs
    simp only [cond_true, Option.some.injEq, Prod.mk.injEq] at hs
    obtain ⟨rfl, rfl⟩ := hs
    simp only [Bool.and_eq_true] at hc
    obtain ⟨⟨h1, h2⟩, h3⟩ := hc
    have h1 := svsEq_eq _ _ h1
    subst h1
    have h2 := Nat.eq_of_beq_eq_true h2
    obtain ⟨hrel, hl⟩ := h.as h2 hb h3
    obtain ⟨mF, k1, k2, k3⟩ := he
    have := (ev_sound hm hN hS n).call f c.args (memOf c.nxt c.mem) _ mF k1 R w hrel (by rw [show (memOf c.nxt c.mem).nxt = c.nxt from rfl, ← h2]; exact ha)
    refine this.mono fun e' w' he' => ?_
    obtain ⟨R', hP, hend⟩ := he'
    obtain ⟨hrel', hl'⟩ := hP.rel.as k2 hb' k3
    have hext : R.ext R' m.nxt := by rw [h2]; exact hP.ext
    have hnn : m.nxt ≤ c.nxt' := by rw [h2, ← k2]; exact hP.nxt
    refine ⟨R', ⟨hrel', hext, hnn, hP.size, fun b hb0 hno => hP.keep b hb0 fun n hn => hno n (hl n hn), fun n hn => ?_, hP.os, hP.tape, hP.output⟩, ?_⟩
    · rcases hP.new n (hl' n hn) with ⟨k, hk, ek⟩ | hge
      · exact .inl ⟨k, hl k hk, ek⟩
      · exact .inr hge
    · obtain ⟨g1, g2⟩ := hend
      exact ⟨g1, by rw [k2] at g2; exact g2⟩
end Go.Ev
namespace Go.Ev
variable {P : Program} {R : Rho} {m : Mem} {w : World}

noncomputable def svSame (a b : SV) : Bool := cond (repEqR a b) true (svEq a b)
theorem svSame_eq {a b : SV} (h : svSame a b = true) : a = b := by
  unfold svSame at h
  cases hr : repEqR a b with
  | true => rw [repEqR_eq] at hr; exact repEq_eq hr
  | false => rw [hr] at h; exact svEq_eq _ _ h
noncomputable def rowSame (l : List SV) : List SV → Bool := List.rec (motive := fun _ => List SV → Bool) (fun k => List.rec (motive := fun _ => Bool) true (fun _ _ _ => false) k) (fun a _ ih k => List.rec (motive := fun _ => Bool) false (fun b k _ => cond (svSame a b) (ih k) false) k) l
theorem rowSame_eq : ∀ (l k : List SV), rowSame l k = true → l = k
  | [], [], _ => rfl
  | [], _ :: _, h => by cases h
  | _ :: _, [], h => by cases h
  | a :: l, b :: k, h => by
    have h : cond (svSame a b) (rowSame l k) false = true := h
    cases hr : svSame a b with
    | false => rw [hr] at h; cases h
    | true =>
      rw [hr] at h
      rw [svSame_eq hr, rowSame_eq l k h]
noncomputable def rpSame (a : Rp) : Rp → Bool := Rp.rec (motive := fun _ => Rp → Bool)
  (fun n l b => Rp.rec (motive := fun _ => Bool) (fun k j => cond (Nat.beq n k) (rowSame l j) false) (fun _ _ => false) (fun _ _ _ _ _ => false) b)
  (fun n v b => Rp.rec (motive := fun _ => Bool) (fun _ _ => false) (fun k u => cond (Nat.beq n k) (svSame v u) false) (fun _ _ _ _ _ => false) b)
  (fun n _ _ iha ihb b => Rp.rec (motive := fun _ => Bool) (fun _ _ => false) (fun _ _ => false) (fun k x y _ _ => cond (Nat.beq n k) (cond (iha x) (ihb y) false) false) b) a
theorem cond_and {a b : Bool} (h : cond a b false = true) : a = true ∧ b = true := by cases a <;> cases b <;> first | exact ⟨rfl, rfl⟩ | cases h
theorem rpSame_eq : ∀ (a b : Rp), rpSame a b = true → a = b
  | .lit n l, .lit k j, h => by
    have h : cond (Nat.beq n k) (rowSame l j) false = true := h
    obtain ⟨h1, h2⟩ := cond_and h
    rw [Nat.eq_of_beq_eq_true h1, rowSame_eq _ _ h2]
  | .rep n v, .rep k u, h => by
    have h : cond (Nat.beq n k) (svSame v u) false = true := h
    obtain ⟨h1, h2⟩ := cond_and h
    rw [Nat.eq_of_beq_eq_true h1, svSame_eq h2]
  | .cat n a b, .cat k x y, h => by
    have h : cond (Nat.beq n k) (cond (rpSame a x) (rpSame b y) false) false = true := h
    obtain ⟨h1, h2⟩ := cond_and h
    obtain ⟨h3, h4⟩ := cond_and h2
    rw [Nat.eq_of_beq_eq_true h1, rpSame_eq a x h3, rpSame_eq b y h4]
  | .lit .., .rep .., h => by cases h
  | .lit .., .cat .., h => by cases h
  | .rep .., .lit .., h => by cases h
  | .rep .., .cat .., h => by cases h
  | .cat .., .lit .., h => by cases h
  | .cat .., .rep .., h => by cases h
noncomputable def blkEq (a b : Blk) : Bool := match a, b with
  | .cells r el o s, .cells r' el' o' s' => cond (Nat.beq el el') (cond (beqB o o') (cond (beqB s s') (rpSame r r') false) false) false
  | .map es c, .map es' c' => cond (Nat.beq c c') (entsEq es es') false
  | .dfr o, .dfr o' => beqB o o'
  | _, _ => false
theorem blkEq_eq {a b : Blk} (h : blkEq a b = true) : a = b := by
  unfold blkEq at h
  split at h
  · obtain ⟨h1, h⟩ := cond_and h
    obtain ⟨h2, h⟩ := cond_and h
    obtain ⟨h3, h⟩ := cond_and h
    rw [Nat.eq_of_beq_eq_true h1, beqB_eq h2, beqB_eq h3, rpSame_eq _ _ h]
  · obtain ⟨h1, h⟩ := cond_and h
    rw [Nat.eq_of_beq_eq_true h1, entsEq_eq _ _ h]
  · rw [beqB_eq h]
  · cases h

noncomputable def fitsAt (m : Mem) (q : Nat × Blk) : Bool := match m.getR q.1 with
  | .yes b => blkEq b q.2
  | .no => false
theorem fitsAt_eq {q : Nat × Blk} (h : fitsAt m q = true) : m.get q.1 = .yes q.2 := by
  unfold fitsAt at h
  rw [Mem.getR_eq] at h
  cases hg : m.get q.1 with
  | no => rw [hg] at h; cases h
  | yes b => rw [hg] at h; rw [blkEq_eq h]
noncomputable def memFits (m : Mem) (l : List (Nat × Blk)) : Bool := l.all (fitsAt m)
theorem memFits_get {l : List (Nat × Blk)} (h : memFits m l = true) {n : Nat} {b : Blk} (hq : (n, b) ∈ l) : m.get n = .yes b := fitsAt_eq ((List.all_eq_true.1 h) _ hq)
def hasNm (l : List (Nat × Blk)) (n : Nat) : Bool := l.any fun q => Nat.beq q.1 n
theorem hasNm_mem {l : List (Nat × Blk)} {n : Nat} (h : hasNm l n = true) : ∃ b, (n, b) ∈ l := by
  obtain ⟨q, hq, e⟩ := List.any_eq_true.1 h
  have := Nat.eq_of_beq_eq_true e
  subst this
  exact ⟨q.2, hq⟩
theorem mem_hasNm {l : List (Nat × Blk)} {n : Nat} {b : Blk} (h : (n, b) ∈ l) : hasNm l n = true := List.any_eq_true.2 ⟨_, h, Nat.beq_refl n⟩
noncomputable def setAll (l : List (Nat × Blk)) (t : M5) : M5 := List.rec (motive := fun _ => M5) t (fun q _ ih => tsetR (.yes q.2) q.1 ih) l
theorem setAll_get (t : M5) : ∀ (l : List (Nat × Blk)) (n : Nat), (∀ q ∈ l, q.1 < 32768) → n < 32768 → (∃ b, (n, b) ∈ l ∧ tget (setAll l t) n = .yes b) ∨ (hasNm l n = false ∧ tget (setAll l t) n = tget t n)
  | [], n, _, _ => .inr ⟨rfl, rfl⟩
  | q :: l, n, hl, hn => by
    have e : tget (setAll (q :: l) t) n = if q.1 = n then .yes q.2 else tget (setAll l t) n := by
      show tget (tsetR (.yes q.2) q.1 (setAll l t)) n = _
      rw [tsetR_eq, tget_tset _ _ (hl q List.mem_cons_self) hn]
    by_cases hq : q.1 = n
    · subst hq
      exact .inl ⟨q.2, List.mem_cons_self, by rw [e, if_pos rfl]⟩
    · rw [if_neg hq] at e
      rcases setAll_get t l n (fun x hx => hl x (List.mem_cons_of_mem _ hx)) hn with ⟨b, h1, h2⟩ | ⟨h1, h2⟩
      · exact .inl ⟨b, List.mem_cons_of_mem _ h1, by rw [e, h2]⟩
      · refine .inr ⟨?_, by rw [e, h2]⟩
        show (Nat.beq q.1 n || hasNm l n) = false
        rw [h1, Bool.or_false]
        cases hb : Nat.beq q.1 n with
        | false => rfl
        | true => exact absurd (Nat.eq_of_beq_eq_true hb) hq
/-- A part of a memory. -/
theorem Rel.at (h : Rel P R m w) {l : List (Nat × Blk)} (hb : below m.nxt l = true) (hh : ∀ n b, (n, b) ∈ l → m.get n = .yes b) : Rel P R (memOf m.nxt l) w ∧ ∀ n, (memOf m.nxt l).live n → hasNm l n = true ∧ m.live n := by
  have hlim := h.lim
  have key : ∀ n b, n < m.nxt → (memOf m.nxt l).get n = .yes b → m.get n = .yes b := fun n b hn hg => hh n b (memOf_get hlim l hb n (by omega) b hg)
  have hlive : ∀ n, (memOf m.nxt l).live n → hasNm l n = true ∧ m.live n := fun n ⟨h1, h2⟩ => by
    have h1' : n < m.nxt := h1
    cases hg : (memOf m.nxt l).get n with
    | no => exact absurd hg h2
    | yes b => exact ⟨mem_hasNm (memOf_get hlim l hb n (by omega) b hg), h1, by rw [key n b h1 hg]; exact fun e => by cases e⟩
  refine ⟨⟨h.lim, h.glob, h.gl, fun i j hi hj e => h.inj i j (hlive i hi).2 (hlive j hj).2 e, fun n b hn hg => h.ok n b hn (key n b hn hg), fun n b hn hg => h.blk n b hn (key n b hn hg), fun n hn hn2 => ?_⟩, hlive⟩
  cases hg : (memOf m.nxt l).get n with
  | no => rfl
  | yes b =>
    have hm := memOf_get hlim l hb n hn2 b hg
    have := (List.all_eq_true.1 hb) (n, b) hm
    have hlt : n < m.nxt := by simpa using this
    have hn' : m.nxt ≤ n := hn
    omega

/-- A call that is told once, by what it looks at and what it changes. -/
structure Cp where
  args : List SV
  nxt : Nat
  mem : List (Nat × Blk)
  v : SV
  nxt' : Nat
  upd : List (Nat × Blk)
def Cp.fit (c : Cp) : Bool := below c.nxt c.mem && below c.nxt' c.upd && !hasNm c.mem 1 && !hasNm c.upd 1 && Nat.blt 1 c.nxt && Nat.ble c.nxt' 32768
noncomputable def Cp.base (c : Cp) (T : List SV) (ob : Obj) : Mem := memOf c.nxt ((1, .tab T ob) :: c.mem)
noncomputable def Cp.sum (T : List SV) (c : Cp) (args : List SV) (m : Mem) : Option (AEnd × Mem) := match m.getR 1 with
  | .yes (.tab l _) => cond (Nat.beq m.nxt c.nxt) (cond (rowSame args c.args) (cond (rowSame l T) (cond (memFits m c.mem) (some (.ret c.v, ⟨c.nxt', setAll c.upd m.t⟩)) none) none) none) none
  | _ => none
noncomputable def Cp.keeps (c : Cp) (m : Mem) : Bool := c.mem.all fun q => cond (hasNm c.upd q.1) true (fitsAt m q)
noncomputable def Cp.is (c : Cp) (x : Option (AEnd × Mem)) : Option Obj := match x with
  | some (.ret v, m) => cond (svSame v c.v) (cond (Nat.beq m.nxt c.nxt') (cond (memFits m c.upd) (cond (c.keeps m) (match m.getR 1 with
    | .yes (.tab _ ob) => some ob
    | _ => none) none) none) none) none
  | _ => none
theorem cond_some {α : Type} {a : Bool} {x : Option α} {y : α} (h : cond a x none = some y) : a = true ∧ x = some y := by cases a <;> first | exact ⟨rfl, h⟩ | cases h
theorem Cp.is_spec {c : Cp} {x : Option (AEnd × Mem)} {ob : Obj} (h : c.is x = some ob) : ∃ m l, x = some (.ret c.v, m) ∧ m.nxt = c.nxt' ∧ memFits m c.upd = true ∧ c.keeps m = true ∧ m.get 1 = .yes (.tab l ob) := by
  unfold Cp.is at h
  split at h
  · rename_i v m
    obtain ⟨h1, h⟩ := cond_some h
    obtain ⟨h2, h⟩ := cond_some h
    obtain ⟨h3, h⟩ := cond_some h
    obtain ⟨h4, h⟩ := cond_some h
    rw [Mem.getR_eq] at h
    split at h
    · rename_i l ob' hg
      simp only [Option.some.injEq] at h
      subst h
      exact ⟨m, l, by rw [svSame_eq h1], Nat.eq_of_beq_eq_true h2, h3, h4, hg⟩
    · cases h
  · cases h
theorem Cp.ok {c : Cp} {T : List SV} {f : FuncId} {sum : FuncId → Option (List SV → Mem → Option (AEnd × Mem))} (hm : P.follows .mixedOrders = true) (hN : NoGor P) (hS : SumOK P sum) {n : Nat}
    (he : ∀ ob, ∃ mF l, (ev P sum n).call f c.args (c.base T ob) = some (.ret c.v, mF) ∧ mF.nxt = c.nxt' ∧ memFits mF c.upd = true ∧ c.keeps mF = true ∧ mF.get 1 = .yes (.tab l ob)) (hfit : c.fit = true)
    {args : List SV} {e : AEnd} {m' : Mem} (hs : c.sum T args m = some (e, m')) (h : Rel P R m w) (ha : ∀ v ∈ args, v.bel m.nxt) : CallRes P ((callFunc f (args.map (den R)).toArray).run P w) (EndOK P R m w e m') := by
  unfold Cp.sum at hs
  rw [Mem.getR_eq] at hs
  split at hs
  · rename_i l ob hg1
    obtain ⟨h2, hs⟩ := cond_some hs
    obtain ⟨h1, hs⟩ := cond_some hs
    obtain ⟨h3, hs⟩ := cond_some hs
    obtain ⟨h4, hs⟩ := cond_some hs
    simp only [Option.some.injEq, Prod.mk.injEq] at hs
    obtain ⟨rfl, rfl⟩ := hs
    have h1 := rowSame_eq _ _ h1
    subst h1
    have h2 := Nat.eq_of_beq_eq_true h2
    have h3 := rowSame_eq _ _ h3
    subst h3
    simp only [Cp.fit, Bool.and_eq_true, Bool.not_eq_true'] at hfit
    obtain ⟨⟨⟨⟨⟨f1, f2⟩, f3⟩, f4⟩, f5⟩, f6⟩ := hfit
    have f5 : 1 < c.nxt := by simpa using f5
    have f6 : c.nxt' ≤ 32768 := by simpa using f6
    have hbel : below m.nxt ((1, .tab l ob) :: c.mem) = true := by
      show (Nat.blt 1 m.nxt && below m.nxt c.mem) = true
      rw [h2, f1, Bool.and_true]
      simpa using f5
    obtain ⟨hrel, hl⟩ := h.at hbel (fun k b hk => by
      rcases List.mem_cons.1 hk with e | hk
      · cases e; exact hg1
      · exact memFits_get h4 hk)
    obtain ⟨mF, l', k1, k2, k3, k4, k5⟩ := he ob
    have hbase : c.base l ob = memOf m.nxt ((1, .tab l ob) :: c.mem) := by unfold Cp.base; rw [h2]
    rw [hbase] at k1
    have := (ev_sound hm hN hS n).call f c.args _ _ mF k1 R w hrel ha
    refine this.mono fun e' w' he' => ?_
    obtain ⟨R', hP, hend⟩ := he'
    have hext : R.ext R' m.nxt := hP.ext
    have hnn : m.nxt ≤ c.nxt' := by rw [← k2]; exact hP.nxt
    have hlim := h.lim
    have hupd : ∀ q ∈ c.upd, q.1 < c.nxt' := fun q hq => by simpa using (List.all_eq_true.1 f2) q hq
    have live_of : ∀ {X : Mem} {n : Nat} {b : Blk}, n < X.nxt → X.get n = .yes b → X.live n := fun h1 h2 => ⟨h1, by rw [h2]; exact fun e => by cases e⟩
    have cls : ∀ n b, n < 32768 → (⟨c.nxt', setAll c.upd m.t⟩ : Mem).get n = .yes b → (n < c.nxt' ∧ mF.get n = .yes b) ∨ (n = 1 ∧ b = .tab l ob) ∨ (m.get n = .yes b ∧ n < m.nxt ∧ hasNm ((1, .tab l ob) :: c.mem) n = false) := fun n b hn hg => by
      rcases setAll_get m.t c.upd n (fun q hq => by have := hupd q hq; omega) hn with ⟨b', j1, j2⟩ | ⟨j1, j2⟩
      · have e : (⟨c.nxt', setAll c.upd m.t⟩ : Mem).get n = .yes b' := j2
        rw [hg] at e
        cases e
        exact .inl ⟨hupd _ j1, memFits_get k3 j1⟩
      · have e : (⟨c.nxt', setAll c.upd m.t⟩ : Mem).get n = m.get n := j2
        rw [hg] at e
        have hnm : n < m.nxt := by
          by_cases hlt : n < m.nxt
          · exact hlt
          · have := h.top n (by omega) hn
            rw [← e] at this
            cases this
        cases hn1 : Nat.beq 1 n with
        | true =>
          have := Nat.eq_of_beq_eq_true hn1
          subst this
          rw [hg1] at e
          cases e
          exact .inr (.inl ⟨rfl, rfl⟩)
        | false =>
          cases hc : hasNm c.mem n with
          | false => exact .inr (.inr ⟨e.symm, hnm, by show (Nat.beq 1 n || hasNm c.mem n) = false; rw [hn1, hc]; rfl⟩)
          | true =>
            obtain ⟨b0, hb0⟩ := hasNm_mem hc
            have e0 := memFits_get h4 hb0
            rw [← e] at e0
            cases e0
            have := (List.all_eq_true.1 k4) _ hb0
            rw [show hasNm c.upd (n, b).1 = false from j1] at this
            exact .inl ⟨by omega, fitsAt_eq this⟩
    have hlive : ∀ n, (⟨c.nxt', setAll c.upd m.t⟩ : Mem).live n → mF.live n ∨ (m.live n ∧ hasNm ((1, .tab l ob) :: c.mem) n = false) := fun n ⟨j1, j2⟩ => by
      have j1 : n < c.nxt' := j1
      cases hg : (⟨c.nxt', setAll c.upd m.t⟩ : Mem).get n with
      | no => exact absurd hg j2
      | yes b =>
        rcases cls n b (by omega) hg with ⟨_, i2⟩ | ⟨rfl, _⟩ | ⟨i1, i2, i3⟩
        · exact .inl (live_of (by rw [k2]; exact j1) i2)
        · exact .inl (live_of (by rw [k2]; exact j1) k5)
        · exact .inr ⟨live_of i2 i1, i3⟩
    have hFM : ∀ i j, mF.live i → m.live j → hasNm ((1, .tab l ob) :: c.mem) j = false → R'.b i ≠ R'.b j := fun i j hi hj hno e => by
      rcases hP.new i hi with ⟨k, hk, ek⟩ | hge
      · obtain ⟨a1, a2⟩ := hl k hk
        have : k = j := h.inj k j a2 hj (by rw [← ek, e, (hext j hj.1).1])
        subst this
        rw [hno] at a1
        cases a1
      · rw [e, (hext j hj.1).1] at hge
        have := h.block_lt hj
        omega
    refine ⟨R', ⟨⟨f6, fun g hg => ?_, ?_, fun i j hi hj e => ?_, fun n b hn hg => ?_, fun n b hn hg => ?_, fun n hn hn2 => ?_⟩, hext, hnn, hP.size, fun b hb0 hno => hP.keep b hb0 fun n hn => hno n (hl n hn).2, fun n hn => ?_, hP.os, hP.tape, hP.output⟩, ?_⟩
    · have := h.gl
      rw [(hext g (by omega)).1]
      exact h.glob g hg
    · have := h.gl
      exact Nat.le_trans this hnn
    · rcases hlive i hi with i1 | ⟨i1, i2⟩ <;> rcases hlive j hj with j1 | ⟨j1, j2⟩
      · exact hP.rel.inj i j i1 j1 e
      · exact absurd e (hFM i j i1 j1 j2)
      · exact absurd e.symm (hFM j i j1 i1 i2)
      · rw [(hext i i1.1).1, (hext j j1.1).1] at e
        exact h.inj i j i1 j1 e
    · have hn' : n < c.nxt' := hn
      rcases cls n b (by omega) hg with ⟨_, i2⟩ | ⟨rfl, rfl⟩ | ⟨i1, i2, i3⟩
      · have := hP.rel.ok n b (by rw [k2]; exact hn') i2
        rw [k2] at this
        exact this
      · exact Blk.ok_mono hnn (h.ok 1 _ (by omega) hg1)
      · exact Blk.ok_mono hnn (h.ok n b i2 i1)
    · have hn' : n < c.nxt' := hn
      rcases cls n b (by omega) hg with ⟨_, i2⟩ | ⟨rfl, rfl⟩ | ⟨i1, i2, i3⟩
      · exact hP.rel.blk n b (by rw [k2]; exact hn') i2
      · have a1 := hP.rel.blk 1 _ (by rw [k2]; exact hn') k5
        have a2 := blkRel.ext hext (by omega) (h.ok 1 _ (by omega) hg1) (h.blk 1 _ (by omega) hg1)
        obtain ⟨_, _, _, b1, _, _⟩ := a1
        obtain ⟨arr, el, fr, _, b2, b3⟩ := a2
        exact ⟨arr, el, fr, b1, b2, b3⟩
      · have hln := live_of i2 i1
        rw [(hext n i2).1, hP.keep _ (h.block_lt hln) fun k hk e => by
          obtain ⟨a1, a2⟩ := hl k hk
          have := h.inj k n a2 hln e
          subst this
          rw [i3] at a1
          cases a1]
        exact blkRel.ext hext i2 (h.ok n b i2 i1) (h.blk n b i2 i1)
    · have hn' : c.nxt' ≤ n := hn
      cases hg : (⟨c.nxt', setAll c.upd m.t⟩ : Mem).get n with
      | no => rfl
      | yes b =>
        rcases cls n b hn2 hg with ⟨i1, _⟩ | ⟨rfl, _⟩ | ⟨_, i2, _⟩ <;> omega
    · rcases hlive n hn with i1 | ⟨i1, _⟩
      · rcases hP.new n i1 with ⟨k, hk, ek⟩ | hge
        · exact .inl ⟨k, (hl k hk).2, ek⟩
        · exact .inr hge
      · exact .inl ⟨n, i1, (hext n i1.1).1⟩
    · obtain ⟨g1, g2⟩ := hend
      exact ⟨g1, by rw [k2] at g2; exact g2⟩
  · cases hs
end Go.Ev
