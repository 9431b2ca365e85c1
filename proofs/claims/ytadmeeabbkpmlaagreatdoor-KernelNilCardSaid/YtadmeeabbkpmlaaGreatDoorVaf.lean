/- The evaluator: a deferred function that may recover; calls. The evaluator: a round of a range over a function; all together. The evaluator: drawn regions: what the classes of operations say; parts of a memory. The evaluator: drawn regions: what makes a block; parts of a memory; a step in a part. The evaluator: drawn regions: what must come before; the run in the order of the text. -/
import Derived.Test.YtadmeeabbkpmlaaGreatDoorVae
set_option linter.unusedSimpArgs false
set_option linter.unusedVariables false
namespace Go.Ev
variable {P : Program} {R : Rho} {m : Mem} {w : World}

/-- A deferred function's state: its own, and the mode of the frame that it is called from. -/
def DOK (P : Program) (R : Rho) (m : Mem) (w : World) (N : Nat) (c0 : Frame) (cs0 : List Frame) (ex : AEx) (s' : St) (md' : Md) (e : Exit) (a' : Act) (cs' : List Frame) (w' : World) : Prop :=
  ∃ R', Post P R m w R' s'.mem w' ∧ At P R' N s' a' w' ∧ exRel R' s'.mem.nxt ex e ∧ cs' = { c0 with mode := mdMode R' md' } :: cs0 ∧ mdBel s'.mem.nxt md'
theorem DOK.after {N : Nat} {c0 : Frame} {cs0 cs' : List Frame} {ex : AEx} {s' : St} {md' : Md} {e : Exit} {a' : Act} {w' : World} {R1 : Rho} {m1 : Mem} {w1 : World}
    (hp : Post P R m w R1 m1 w1) (h : DOK P R1 m1 w1 N c0 cs0 ex s' md' e a' cs' w') : DOK P R m w N c0 cs0 ex s' md' e a' cs' w' :=
  let ⟨R', h1, h2⟩ := h
  ⟨R', hp.trans h1, h2⟩

theorem opsD_ok {N : Nat} {ops : Array Oper} {ex : AEx} {s' : St} {md' : Md} {Q : Exit → Act → List Frame → World → Prop} {c0 : Frame} {cs0 : List Frame} :
    ∀ (l : List Oper) (k : Nat) (R : Rho) (s : St) (md : Md) (a : Act) (w : World), (∀ j, l[j]? = ops[k + j]?) → At P R N s a w → mdBel s.mem.nxt md → opsD P ops N l s md = some (ex, s', md') →
      (∀ e a' cs' w', DOK P R s.mem w N c0 cs0 ex s' md' e a' cs' w' → Q e a' cs' w') → wpOpsSIn Fence.wide 0 P ops Q (List.range' k l.length) a ({ c0 with mode := mdMode R md } :: cs0) w := by
  intro l
  induction l with
  | nil =>
    intro k R s md a w hl h hm hs hQ
    simp only [opsD, Option.some.injEq, Prod.mk.injEq] at hs
    obtain ⟨rfl, rfl, rfl⟩ := hs
    exact hQ _ _ _ _ ⟨R, Post.refl h.rel, h, rfl, rfl, hm⟩
  | cons o l ih =>
    intro k R s md a w hl h hm hs hQ
    have ho : ops[k]? = some o := by have := hl 0; simpa using this.symm
    have hl' : ∀ j, l[j]? = ops[k + 1 + j]? := fun j => by
      have := hl (j + 1)
      simp only [List.getElem?_cons_succ] at this
      rw [this]
      congr 1
      omega
    simp only [opsD] at hs
    rw [guardS_ok h.env ops o] at hs
    rw [List.length_cons, List.range'_succ]
    simp only [wpOpsSIn, ho]
    refine ⟨fun f _ => trivial, ?_⟩
    have hgo : ∀ (v : SV) (m1 : Mem) (md1 : Md) (R1 : Rho) (w1 : World) (dv : Value), Post P R s.mem w R1 m1 w1 → dv = den R1 v → v.bel m1.nxt → mdBel m1.nxt md1 →
        (match putD N o.dst v s.env with
          | some e => opsD P ops N l ⟨e, s.dfs, m1⟩ md1
          | none => none) = some (ex, s', md') → wpOpsSIn Fence.wide 0 P ops Q (List.range' (k + 1) l.length) (a.put o.dst dv) ({ c0 with mode := mdMode R1 md1 } :: cs0) w1 := by
      intro v m1 md1 R1 w1 dv hp hdv hv hmd hh
      cases hpd : putD N o.dst v s.env with
      | none => rw [hpd] at hh; cases hh
      | some e =>
        rw [hpd] at hh
        have h2 := (h.post hp).put (d := o.dst) (v := v) (e := e) hv hpd
        rw [hdv]
        exact ih (k + 1) R1 _ md1 _ w1 hl' h2 hmd hh fun e a' cs' w' hc => hQ _ _ _ _ (hc.after hp)
    have hρ := opd_ok h.rel h.env
    cases hw : Region.wanted o (yielded ops a.tmps) with
    | false =>
      rw [hw, cond_false] at hs
      rw [if_neg (by simp)]
      exact hgo .und s.mem md R w undef (Post.refl h.rel) (den_und R).symm trivial hm hs
    | true =>
      rw [hw, cond_true] at hs
      rw [if_pos rfl]
      cases hx : opS P o.op (fun x => opd P N x s.env) s.mem with
      | val v m1 =>
        rw [hx] at hs
        obtain ⟨R1, w1, h1, h2, h3⟩ := op_val h.rel hρ hx
        have hmm : mdMode R md = mdMode R1 md := (mdMode_ext h2.ext hm).symm
        rw [hmm]
        rcases h1 with h1 | ⟨h1, rfl⟩
        · rw [h1]; exact hgo v m1 md R1 w1 _ h2 rfl h3 (mdBel_mono h2.nxt hm) hs
        · rw [h1]; exact hgo .und m1 md R1 w1 _ h2 (den_und R1).symm h3 (mdBel_mono h2.nxt hm) hs
      | recover =>
        rw [hx] at hs
        obtain ⟨c, hc⟩ := op_recover hx
        obtain ⟨dst, op, ty, pos, aft, grd⟩ := o
        simp only at hc
        subst hc
        rw [call_recover (w := w) (dst := dst) (ty := ty) (pos := pos) (aft := aft) (grd := grd) hρ hx]
        simp only at hs ⊢
        cases md with
        | none =>
          simp only at hs
          exact hgo (.tag .nili) s.mem none R w _ (Post.refl h.rel) (by simp only [den]) trivial trivial hs
        | some ch =>
          cases ch with
          | nil =>
            simp only at hs
            exact hgo (.tag .nili) s.mem (some []) R w _ (Post.refl h.rel) (by simp only [den]) trivial hm hs
          | cons q ch =>
            obtain ⟨v, b⟩ := q
            cases b with
            | true =>
              simp only at hs
              exact hgo (.tag .nili) s.mem (some ((v, true) :: ch)) R w _ (Post.refl h.rel) (by simp only [den]) trivial hm hs
            | false =>
              simp only at hs
              have hvb : v.bel s.mem.nxt := hm (v, false) (by simp)
              exact hgo v s.mem (some ((v, true) :: ch)) R w (den R v) (Post.refl h.rel) rfl hvb (fun q hq => by
                rcases List.mem_cons.1 hq with rfl | hq
                · exact hvb
                · exact hm q (by simp [hq])) hs
      | panic v m1 =>
        rw [hx] at hs
        simp only [Option.some.injEq, Prod.mk.injEq] at hs
        obtain ⟨rfl, rfl, rfl⟩ := hs
        obtain ⟨x, hc⟩ := op_panic hx
        obtain ⟨dst, op, ty, pos, aft, grd⟩ := o
        simp only at hc
        subst hc
        obtain ⟨k1, k2, ⟨t, y, k3⟩, k4⟩ := panic_law (w := w) (dst := dst) (ty := ty) (pos := pos) (aft := aft) (grd := grd) hρ hx
        subst k1
        rw [k4, panic_run w (by rw [k3]; rfl)]
        exact hQ _ _ _ _ ⟨R, Post.refl h.rel, ⟨h.rel, h.env, h.dfs⟩, ⟨rfl, fun q hq => by simp at hq; rw [hq]; exact k2⟩, rfl, hm⟩
      | _ => rw [hx] at hs; cases hs

theorem codeD_wide {E : EvF} (hm : P.follows .mixedOrders = true) (hN : NoGor P) (hE : Sound P E) {N : Nat} {c0 : Frame} {cs0 : List Frame} {c : Code} {R : Rho} {s : St} {md md' : Md} {a : Act} {w : World} {ex : AEx} {s' : St}
    {Q : Exit → Act → List Frame → World → Prop} (h : At P R N s a w) (hmd : mdBel s.mem.nxt md)
    (hs : (match codeS P N c E none s with
      | some (x, s') => some (x, s', md)
      | none => none) = some (ex, s', md')) (hQ : ∀ e a' cs' w', DOK P R s.mem w N c0 cs0 ex s' md' e a' cs' w' → Q e a' cs' w') :
    c.wpSIn Fence.wide 0 P Q a ({ c0 with mode := mdMode R md } :: cs0) w := by
  cases hc : codeS P N c E none s with
  | none => rw [hc] at hs; cases hs
  | some r =>
    obtain ⟨x, s1⟩ := r
    rw [hc] at hs
    simp only [Option.some.injEq, Prod.mk.injEq] at hs
    obtain ⟨rfl, rfl, rfl⟩ := hs
    refine wpSIn_of_wpIn rfl (codeS_ok (ro := none) (R0 := R) hm hN hE c R s a w x s1 _ rfl (fun n hn => by cases hn) h hc fun e a' w' hh => ?_)
    obtain ⟨R', p1, p2, p3⟩ := hh
    exact hQ _ _ _ _ ⟨R', p1, p2, p3, by rw [mdMode_ext p1.ext hmd], mdBel_mono p1.nxt hmd⟩

theorem codeD_ok {E : EvF} (hm : P.follows .mixedOrders = true) (hN : NoGor P) (hE : Sound P E) {N : Nat} {c0 : Frame} {cs0 : List Frame} :
    ∀ (c : Code) (R : Rho) (s : St) (md : Md) (a : Act) (w : World) (ex : AEx) (s' : St) (md' : Md) (Q : Exit → Act → List Frame → World → Prop), At P R N s a w → mdBel s.mem.nxt md →
      codeD P N c E s md = some (ex, s', md') → (∀ e a' cs' w', DOK P R s.mem w N c0 cs0 ex s' md' e a' cs' w' → Q e a' cs' w') → c.wpSIn Fence.wide 0 P Q a ({ c0 with mode := mdMode R md } :: cs0) w := by
  intro c
  induction c with
  | seq x y ihx ihy =>
    intro R s md a w ex s' md' Q h hmd hs hQ
    simp only [codeD] at hs
    cases hx : codeD P N x E s md with
    | none => rw [hx] at hs; cases hs
    | some r =>
      obtain ⟨e1, s1, md1⟩ := r
      rw [hx] at hs
      refine wpSIn_seq (ihx R s md a w e1 s1 md1 _ h hmd hx fun e a' cs' w' hc => ?_)
      obtain ⟨R1, p1, p2, p3, rfl, p5⟩ := hc
      cases e1 with
      | normal =>
        have : e = .normal := p3
        subst this
        exact ihy R1 s1 md1 a' w' ex s' md' Q p2 p5 hs fun e a2 cs2 w2 hc => hQ _ _ _ _ (hc.after p1)
      | exit id =>
        simp only [Option.some.injEq, Prod.mk.injEq] at hs
        obtain ⟨rfl, rfl, rfl⟩ := hs
        have : e = .exit id := p3
        subst this
        exact hQ _ _ _ _ ⟨R1, p1, p2, rfl, rfl, p5⟩
      | ret =>
        simp only [Option.some.injEq, Prod.mk.injEq] at hs
        obtain ⟨rfl, rfl, rfl⟩ := hs
        have : e = .ret := p3
        subst this
        exact hQ _ _ _ _ ⟨R1, p1, p2, rfl, rfl, p5⟩
      | pan ch =>
        simp only [Option.some.injEq, Prod.mk.injEq] at hs
        obtain ⟨rfl, rfl, rfl⟩ := hs
        obtain ⟨rfl, p4⟩ := p3
        exact hQ _ _ _ _ ⟨R1, p1, p2, ⟨rfl, p4⟩, rfl, p5⟩
  | cond c x y ihx ihy =>
    intro R s md a w ex s' md' Q h hmd hs hQ
    simp only [codeD] at hs
    cases hc : opd P N c s.env with
    | none => rw [hc] at hs; cases hs
    | some v =>
      rw [hc] at hs
      obtain ⟨k1, k2⟩ := opd_ok h.rel h.env c v hc
      cases v with
      | bool t =>
        cases t with
        | true => exact wpSIn_cond (t := true) (by rw [k1]; rfl) (ihx R s md a w ex s' md' Q h hmd hs hQ)
        | false => exact wpSIn_cond (t := false) (by rw [k1]; rfl) (ihy R s md a w ex s' md' Q h hmd hs hQ)
      | _ => cases hs
  | region id ops draw =>
    intro R s md a w ex s' md' Q h hmd hs hQ
    simp only [codeD] at hs
    cases hb : (!draw && ops.toList.any opRec) with
    | true =>
      rw [hb, cond_true] at hs
      have hd : draw = false := by cases draw <;> first | rfl | (simp at hb)
      subst hd
      refine wpSIn_region ?_
      have := opsD_ok (P := P) (N := N) (ops := ops) (ex := ex) (s' := s') (md' := md') (Q := Q) (c0 := c0) (cs0 := cs0) ops.toList 0 R s md a w (fun j => by simp) h hmd hs hQ
      rw [List.range_eq_range']
      simpa using this
    | false =>
      rw [hb, cond_false] at hs
      exact codeD_wide hm hN hE h hmd hs hQ
  | skip => intro R s md a w ex s' md' Q h hmd hs hQ; exact codeD_wide hm hN hE h hmd hs hQ
  | label l => intro R s md a w ex s' md' Q h hmd hs hQ; exact codeD_wide hm hN hE h hmd hs hQ
  | exit id => intro R s md a w ex s' md' Q h hmd hs hQ; exact codeD_wide hm hN hE h hmd hs hQ
  | ret => intro R s md a w ex s' md' Q h hmd hs hQ; exact codeD_wide hm hN hE h hmd hs hQ
  | goto l => intro R s md a w ex s' md' Q h hmd hs hQ; exact codeD_wide hm hN hE h hmd hs hQ
  | refuse x => intro R s md a w ex s' md' Q h hmd hs hQ; exact codeD_wide hm hN hE h hmd hs hQ
  | block id x ih => intro R s md a w ex s' md' Q h hmd hs hQ; exact codeD_wide hm hN hE h hmd hs hQ
  | scope x ih => intro R s md a w ex s' md' Q h hmd hs hQ; exact codeD_wide hm hN hE h hmd hs hQ
  | loop x ih => intro R s md a w ex s' md' Q h hmd hs hQ; exact codeD_wide hm hN hE h hmd hs hQ
  | rangeFunc g ps asg body => intro R s md a w ex s' md' Q h hmd hs hQ; exact codeD_wide hm hN hE h hmd hs hQ

/-! ### Calls -/
def SumOK (P : Program) (sum : FuncId → Option (List SV → Mem → Option (AEnd × Mem))) : Prop := ∀ f g, sum f = some g → ∀ args m e m', g args m = some (e, m') → ∀ R w, Rel P R m w → (∀ v ∈ args, v.bel m.nxt) →
  CallRes P ((callFunc f (args.map (den R)).toArray).run P w) (EndOK P R m w e m')

theorem bodyS_ok {E : EvF} (hm : P.follows .mixedOrders = true) (hN : NoGor P) (hE : Sound P E) (hD : DcallOK P E) :
    ∀ f args m e m', bodyS P E f args m = some (e, m') → ∀ R w, Rel P R m w → (∀ v ∈ args, v.bel m.nxt) → CallRes P ((callFunc f (args.map (den R)).toArray).run P w) (EndOK P R m w e m') := by
  intro f args m e m' hs R w h hb
  unfold bodyS at hs
  cases hf : P.funcs[f]? with
  | none => rw [hf] at hs; cases hs
  | some fn =>
    rw [hf] at hs
    simp only at hs
    cases hc : fn.body with
    | none => rw [hc] at hs; cases hs
    | some c =>
      rw [hc] at hs
      simp only at hs
      rw [callFunc_body hf (by rw [hc]; rfl) (hN f fn hf (by rw [hc]; rfl))]
      cases hle : (Nat.ble args.length fn.ntmps && Nat.ble fn.ntmps 512) with
      | false => rw [hle] at hs; cases hs
      | true =>
        rw [hle, cond_true] at hs
        simp only [Bool.and_eq_true, Nat.ble_eq] at hle
        have hA : At P R fn.ntmps ⟨argsE args 0 Env.none, [], m⟩ { tmps := (args.map (den R)).toArray ++ Array.replicate (fn.ntmps - (args.map (den R)).toArray.size) undef, defers := [] } w :=
          ⟨h, enter_env hb hle.1 hle.2, rfl⟩
        cases hx : codeS P fn.ntmps c E none ⟨argsE args 0 Env.none, [], m⟩ with
        | none => rw [hx] at hs; cases hs
        | some r =>
          obtain ⟨ex, s⟩ := r
          rw [hx] at hs
          refine callsIn_of_wp_marks hf hc trivial (codeS_ok (ro := none) (R0 := R) hm hN hE c R _ _ w ex s _ rfl (fun n hn => by cases hn) hA hx fun e1 a' w' hh => ?_)
          obtain ⟨R', p1, p2, p3⟩ := hh
          cases ex with
          | normal =>
            have : e1 = .normal := p3
            subst this
            exact leaveS_ok hN hD _ _ none R' s.mem w' hs p2.rel p2.env p2.dfs trivial fun e' w2 ⟨R2, q1, q2⟩ => ⟨R2, p1.trans q1, q2⟩
          | ret =>
            have : e1 = .ret := p3
            subst this
            exact leaveS_ok hN hD _ _ none R' s.mem w' hs p2.rel p2.env p2.dfs trivial fun e' w2 ⟨R2, q1, q2⟩ => ⟨R2, p1.trans q1, q2⟩
          | pan ch =>
            obtain ⟨rfl, p4⟩ := p3
            exact leaveS_ok hN hD _ _ (some ch) R' s.mem w' hs p2.rel p2.env p2.dfs p4 fun e' w2 ⟨R2, q1, q2⟩ => ⟨R2, p1.trans q1, q2⟩
          | exit id => cases hs

theorem callS_ok {E : EvF} {sum : FuncId → Option (List SV → Mem → Option (AEnd × Mem))} (hm : P.follows .mixedOrders = true) (hN : NoGor P) (hS : SumOK P sum) (hE : Sound P E) (hD : DcallOK P E) :
    ∀ f args m e m', callS P sum E f args m = some (e, m') → ∀ R w, Rel P R m w → (∀ v ∈ args, v.bel m.nxt) → CallRes P ((callFunc f (args.map (den R)).toArray).run P w) (EndOK P R m w e m') := by
  intro f args m e m' hs R w h hb
  unfold callS at hs
  cases hsu : sum f with
  | none => rw [hsu] at hs; exact bodyS_ok hm hN hE hD f args m e m' hs R w h hb
  | some g =>
    rw [hsu] at hs
    simp only at hs
    cases hg : g args m with
    | none => rw [hg] at hs; exact bodyS_ok hm hN hE hD f args m e m' hs R w h hb
    | some q =>
      rw [hg] at hs
      simp only [Option.some.injEq] at hs
      subst hs
      exact hS f g hsu args m e m' hg R w h hb

theorem dcallS_ok {E : EvF} (hm : P.follows .mixedOrders = true) (hN : NoGor P) (hE : Sound P E) :
    ∀ f args md m e md' m', dcallS P E f args md m = some (e, md', m') → ∀ R w, Rel P R m w → (∀ v ∈ args, v.bel m.nxt) → mdBel m.nxt md →
      hasBody P f = true ∧ CallsDIn Fence.wide 0 P f (args.map (den R)).toArray (mdMode R md) w (DEndOK P R m w e md' m') := by
  intro f args md m e md' m' hs R w h hb hmd
  unfold dcallS at hs
  cases hf : P.funcs[f]? with
  | none => rw [hf] at hs; cases hs
  | some fn =>
    rw [hf] at hs
    simp only at hs
    cases hc : fn.body with
    | none => rw [hc] at hs; cases hs
    | some c =>
      rw [hc] at hs
      simp only at hs
      refine ⟨by simp only [hasBody, hf, hc], ?_⟩
      cases hle : (Nat.ble args.length fn.ntmps && Nat.ble fn.ntmps 512) with
      | false => rw [hle] at hs; cases hs
      | true =>
        rw [hle, cond_true] at hs
        simp only [Bool.and_eq_true, Nat.ble_eq] at hle
        have hA : At P R fn.ntmps ⟨argsE args 0 Env.none, [], m⟩ { tmps := (args.map (den R)).toArray ++ Array.replicate (fn.ntmps - (args.map (den R)).toArray.size) undef, defers := [] } w :=
          ⟨h, enter_env hb hle.1 hle.2, rfl⟩
        cases hx : codeD P fn.ntmps c E ⟨argsE args 0 Env.none, [], m⟩ md with
        | none => rw [hx] at hs; cases hs
        | some r =>
          obtain ⟨ex, s, md1⟩ := r
          rw [hx] at hs
          refine callsDIn_of_wpSIn hf hc trivial fun c0 cs hu => ?_
          have hc0 : c0 = { c0 with mode := mdMode R md } := by rw [← hu]
          rw [hc0]
          refine codeD_ok (c0 := c0) hm hN hE c R _ md _ w ex s md1 _ hA hmd hx fun e1 a' cs' w' hh => ?_
          obtain ⟨R', p1, p2, p3, rfl, p5⟩ := hh
          have hdone : ∀ v, resV P s.env s.mem fn.ntmps fn.results.toList = some v → s.dfs = [] →
              a'.defers = [] ∧ ∃ u', ({ c0 with mode := mdMode R' md1 } :: cs : List Frame) = { ({ c0 with mode := mdMode R md } : Frame) with mode := u' } :: cs ∧ ∃ x, (results fn a'.tmps).run P w' = .ok x w' ∧ DEndOK P R m w (.ret v) md1 s.mem (.returned x) u' w' := by
            intro v hv hd
            obtain ⟨k1, k2⟩ := resV_ok p2.rel p2.env hv
            have hdd := p2.dfs
            rw [hd] at hdd
            exact ⟨hdd, _, rfl, _, k1, R', p1, ⟨rfl, k2⟩, rfl, p5⟩
          cases ex with
          | normal =>
            have : e1 = .normal := p3
            subst this
            simp only at hs
            cases hd : s.dfs with
            | cons x l => rw [hd] at hs; cases hs
            | nil =>
              rw [hd] at hs
              cases hv : resV P s.env s.mem fn.ntmps fn.results.toList with
              | none => rw [hv] at hs; cases hs
              | some v =>
                rw [hv] at hs
                simp only [Option.some.injEq, Prod.mk.injEq] at hs
                obtain ⟨rfl, rfl, rfl⟩ := hs
                exact hdone v hv hd
          | ret =>
            have : e1 = .ret := p3
            subst this
            simp only at hs
            cases hd : s.dfs with
            | cons x l => rw [hd] at hs; cases hs
            | nil =>
              rw [hd] at hs
              cases hv : resV P s.env s.mem fn.ntmps fn.results.toList with
              | none => rw [hv] at hs; cases hs
              | some v =>
                rw [hv] at hs
                simp only [Option.some.injEq, Prod.mk.injEq] at hs
                obtain ⟨rfl, rfl, rfl⟩ := hs
                exact hdone v hv hd
          | pan ch =>
            obtain ⟨rfl, p4⟩ := p3
            simp only at hs
            cases hd : s.dfs with
            | cons x l => rw [hd] at hs; cases hs
            | nil =>
              rw [hd] at hs
              simp only [Option.some.injEq, Prod.mk.injEq] at hs
              obtain ⟨rfl, rfl, rfl⟩ := hs
              have hdd := p2.dfs
              rw [hd] at hdd
              exact ⟨hdd, _, rfl, R', p1, ⟨rfl, p4⟩, rfl, p5⟩
          | exit id => cases hs
end Go.Ev
namespace Go.Ev
variable {P : Program} {R : Rho} {m : Mem} {w : World}

theorem zipSet_ok {N M : Nat} : ∀ (ts : List Tmp) (vs : List SV) (e e' : Env) (tm : Array Value), zipSet N ts vs e = some e' → envOK R N M e tm → (∀ v ∈ vs, v.bel M) →
    ts.length = vs.length ∧ envOK R N M e' ((ts.zip (vs.map (den R))).foldl (fun tmps x => tmps.setIfInBounds x.1 x.2) tm)
  | [], vs, e, e', tm, hs, h, hv => by
    cases vs with
    | nil =>
      simp only [zipSet, Option.some.injEq] at hs
      subst hs
      exact ⟨rfl, h⟩
    | cons v vs => cases hs
  | t :: ts, vs, e, e', tm, hs, h, hv => by
    cases vs with
    | nil => cases hs
    | cons v vs =>
      simp only [zipSet] at hs
      cases ht : Nat.blt t N with
      | false => rw [ht] at hs; cases hs
      | true =>
        rw [ht, cond_true] at hs
        have h1 : envOK R N M (e.set t v) (tm.setIfInBounds t (den R v)) := by
          have := putD_ok (a := { tmps := tm, defers := [] }) (d := some t) h (hv v (by simp)) (show putD N (some t) v e = some (e.set t v) by simp only [putD, ht, cond_true])
          exact this
        obtain ⟨k1, k2⟩ := zipSet_ok ts vs _ e' _ hs h1 (fun u hu => hv u (by simp [hu]))
        exact ⟨by simp [k1], by simpa using k2⟩

theorem yield_run (h : Rel P R m w) {l : Nat} (hl : l < m.nxt) {st : LoopState} {pend : Option Code} {env : Env} {N : Nat} {ps : Array Tmp} {asg body : Code} {d : Nat}
    (hg : m.get l = .yes (.loop st pend env N ps asg body d)) {args : List SV} (ha : ∀ v ∈ args, v.bel m.nxt) {e : Env} (hz : zipSet N ps.toList args env = some e) :
    ∃ f tmps, (Instr.yield (R.b l) (args.map (den R)).toArray).run P w = .ok (.round (R.b l) f tmps asg body) w ∧ envOK R N m.nxt e tmps := by
  obtain ⟨fn, tm, g1, g2, g3, g4, g5⟩ := loop_there h hl hg
  obtain ⟨k1, k2⟩ := zipSet_ok ps.toList args env e tm hz ⟨g3, g5⟩ ha
  refine ⟨fn, _, ?_, k2⟩
  have hsz : (args.map (den R)).toArray.size = ps.size := by simpa using k1.symm
  simp only [Instr.yield, Sem.run_bind, g2, Result.andThen_ok, hsz, ne_eq, not_true_eq_false, if_false, Sem.run_pure]
  congr 3
  rw [← Array.foldl_toList, Array.toList_zip]

theorem begin_run (h : Rel P R m w) {l : Nat} (hl : l < m.nxt) {pend : Option Code} {env : Env} {N : Nat} {ps : Array Tmp} {asg body : Code} {d : Nat}
    (hg : m.get l = .yes (.loop .ready pend env N ps asg body d)) : ∃ w', (Instr.beginRound (R.b l)).run P w = .ok () w' ∧ Post P R m w R (m.set l (.loop .busy pend env N ps asg body d)) w' := by
  obtain ⟨fn, tm, g1, g2, g3, g4, g5⟩ := loop_there h hl hg
  obtain ⟨w', k1, k2⟩ := loop_set h hl hg g1 g3 .busy pend
  exact ⟨w', by simp only [Instr.beginRound, Sem.run_bind, g2, Result.andThen_ok, k1, Sem.run_pure], k2⟩

theorem endRound_run (h : Rel P R m w) {l : Nat} (hl : l < m.nxt) {st : LoopState} {pend : Option Code} {env : Env} {N : Nat} {ps : Array Tmp} {asg body : Code} {d : Nat}
    (hg : m.get l = .yes (.loop st pend env N ps asg body d)) (jump : Option Code) :
    ∃ w', (Instr.endRound (R.b l) jump).run P w = .ok (.bool jump.isNone) w' ∧ Post P R m w R (m.set l (.loop (if jump.isNone then .ready else .done) jump env N ps asg body d)) w' := by
  obtain ⟨fn, tm, g1, g2, g3, g4, g5⟩ := loop_there h hl hg
  obtain ⟨w', k1, k2⟩ := loop_set h hl hg g1 g3 (if jump.isNone then .ready else .done) jump
  exact ⟨w', by simp only [Instr.endRound, Sem.run_bind, g2, Result.andThen_ok, k1, Sem.run_pure], k2⟩

theorem endRd_ok {w1 : World} (h : Rel P R m w) {l : Nat} (hl : l < m.nxt) {ex : AEx} {s : St} {v : SV} {m' : Mem} {m1 : Mem} {R0 : Rho} {e : Exit} {a : Act} {N : Nat} (hsm : s.mem = m)
    (hs : endRd l ex s = some (v, m')) (hb : R.b l = R0.b l) (hp : Post P R0 m1 w1 R m w) (he : exRel R N ex e) : roundPost P (R0.b l) (EndOK P R0 m1 w1 (.ret v) m') e a w := by
  subst hsm
  unfold endRd at hs
  cases hd : s.dfs with
  | cons x y => rw [hd] at hs; cases hs
  | nil =>
    rw [hd] at hs
    simp only at hs
    cases hg3 : s.mem.get l with
    | no => rw [hg3] at hs; cases hs
    | yes b3 =>
      cases b3 with
      | loop st3 pd3 en3 n3 ps3 asg3 body3 d3 =>
        rw [hg3] at hs
        cases ex with
        | pan ch => cases hs
        | normal =>
          have : e = .normal := he
          subst this
          simp only [Option.some.injEq, Prod.mk.injEq] at hs
          obtain ⟨rfl, rfl⟩ := hs
          obtain ⟨w4, i1, i2⟩ := endRound_run h hl hg3 none
          exact ⟨_, w4, by rw [← hb]; exact i1, R, hp.trans i2, by simp only [Option.isNone_none, den], trivial⟩
        | ret =>
          have : e = .ret := he
          subst this
          simp only [Option.some.injEq, Prod.mk.injEq] at hs
          obtain ⟨rfl, rfl⟩ := hs
          obtain ⟨w4, i1, i2⟩ := endRound_run h hl hg3 (some .ret)
          exact ⟨_, w4, by rw [← hb]; exact i1, R, hp.trans i2, by simp only [Option.isNone_some, den], trivial⟩
        | exit id =>
          have : e = .exit id := he
          subst this
          simp only [Option.some.injEq, Prod.mk.injEq] at hs
          obtain ⟨rfl, rfl⟩ := hs
          obtain ⟨w4, i1, i2⟩ := endRound_run h hl hg3 (some (.exit id))
          exact ⟨_, w4, by rw [← hb]; exact i1, R, hp.trans i2, by simp only [Option.isNone_some, den], trivial⟩
      | _ => rw [hg3] at hs; cases hs

theorem roundS_ok {E : EvF} (hm : P.follows .mixedOrders = true) (hN : NoGor P) (hE : Sound P E) :
    ∀ l args m v m', roundS P E l args m = some (v, m') → ∀ R w, Rel P R m w → l < m.nxt → (∀ v ∈ args, v.bel m.nxt) →
      ∃ f tmps asg body, (Instr.yield (R.b l) (args.map (den R)).toArray).run P w = .ok (.round (R.b l) f tmps asg body) w ∧
        RoundIn Fence.wide 0 P (R.b l) f tmps asg body w (EndOK P R m w (.ret v) m') := by
  intro l args m v m' hs R w h hl ha
  unfold roundS at hs
  cases hg : m.get l with
  | no => rw [hg] at hs; cases hs
  | yes b =>
    cases b with
    | loop st pend env N ps asg body d =>
      rw [hg] at hs
      simp only at hs
      cases hz : zipSet N ps.toList args env with
      | none => rw [hz] at hs; cases hs
      | some e =>
        rw [hz] at hs
        simp only at hs
        obtain ⟨f, tmps, k1, k2⟩ := yield_run h hl hg ha hz
        refine ⟨f, tmps, asg, body, k1, roundIn_of_wpIn trivial ?_⟩
        cases hx : codeS P N asg E (some l) ⟨e, [], m⟩ with
        | none => rw [hx] at hs; cases hs
        | some r =>
          obtain ⟨ex, s⟩ := r
          rw [hx] at hs
          have hA : At P R N ⟨e, [], m⟩ { tmps := tmps, defers := [] } w := ⟨h, k2, rfl⟩
          refine codeS_ok (ro := some l) (R0 := R) hm hN hE asg R _ _ w ex s _ rfl (fun n hn => by cases hn; exact hl) hA hx fun e1 a1 w1 hh => ?_
          obtain ⟨R1, p1, p2, p3⟩ := hh
          cases ex with
          | normal =>
            have : e1 = .normal := p3
            subst this
            simp only at hs
            have hl1 : l < s.mem.nxt := Nat.lt_of_lt_of_le hl p1.nxt
            have hb1 : R1.b l = R.b l := (p1.ext l hl).1
            cases hg2 : s.mem.get l with
            | no => rw [hg2] at hs; cases hs
            | yes b2 =>
              cases b2 with
              | loop st2 pd en n ps2 asg2 body2 d2 =>
                cases st2 with
                | ready =>
                  rw [hg2] at hs
                  simp only at hs
                  obtain ⟨w2, j1, j2⟩ := begin_run p1.rel hl1 hg2
                  refine ⟨w2, by rw [← hb1]; exact j1, ?_⟩
                  cases hx2 : codeS P N body E (some l) ⟨s.env, s.dfs, s.mem.set l (.loop .busy pd en n ps2 asg2 body2 d2)⟩ with
                  | none => rw [hx2] at hs; cases hs
                  | some r2 =>
                    obtain ⟨ex2, s2⟩ := r2
                    rw [hx2] at hs
                    have hA2 := p2.post j2
                    refine codeS_ok (ro := some l) (R0 := R) hm hN hE body R1 _ a1 w2 ex2 s2 _ (by simp only [Option.map_some, hb1]) (fun n hn => by cases hn; exact hl1) hA2 hx2 fun e2 a2 w3 hh2 => ?_
                    obtain ⟨R2, q1, q2, q3⟩ := hh2
                    have hl2 : l < s2.mem.nxt := Nat.lt_of_lt_of_le hl1 q1.nxt
                    have hb2 : R2.b l = R.b l := by rw [(q1.ext l hl1).1, hb1]
                    have hpost := (p1.trans j2).trans q1
                    exact endRd_ok q1.rel hl2 rfl hs hb2 hpost q3
                | _ => rw [hg2] at hs; cases hs
              | _ => rw [hg2] at hs; cases hs
          | exit id => cases hs
          | ret => cases hs
          | pan ch => cases hs
    | _ => rw [hg] at hs; cases hs

theorem loopS_ok {E : EvF} (hm : P.follows .mixedOrders = true) (hN : NoGor P) (hE : Sound P E) : LoopOK P { E with loop := fun N r c s => codeS P N (.loop c) E r s } := by
  intro N ro c s ex s' hs R0 R a w Q hF hro h hQ
  simp only [codeS] at hs
  cases hx : codeS P N c E ro s with
  | none => rw [hx] at hs; cases hs
  | some r =>
    obtain ⟨e1, s1⟩ := r
    rw [hx] at hs
    refine loopIn_of (codeS_ok hm hN hE c R s a w e1 s1 _ hF hro h hx fun e a' w' hc => ?_)
    obtain ⟨R1, p1, p2, p3⟩ := hc
    cases e1 with
    | normal =>
      have : e = .normal := p3
      subst this
      refine hE.loop N ro c s1 ex s' hs R0 R1 a' w' Q ?_ (fun n hn => Nat.lt_of_lt_of_le (hro n hn) p1.nxt) p2 fun e a2 w2 hc => hQ _ _ _ (hc.after p1)
      rw [hF]
      cases ro with
      | none => rfl
      | some n => simp only [Option.map_some, (p1.ext n (hro n rfl)).1]
    | exit id =>
      simp only [Option.some.injEq, Prod.mk.injEq] at hs
      obtain ⟨rfl, rfl⟩ := hs
      have : e = .exit id := p3
      subst this
      exact hQ _ _ _ ⟨R1, p1, p2, rfl⟩
    | ret =>
      simp only [Option.some.injEq, Prod.mk.injEq] at hs
      obtain ⟨rfl, rfl⟩ := hs
      have : e = .ret := p3
      subst this
      exact hQ _ _ _ ⟨R1, p1, p2, rfl⟩
    | pan ch =>
      simp only [Option.some.injEq, Prod.mk.injEq] at hs
      obtain ⟨rfl, rfl⟩ := hs
      obtain ⟨rfl, p4⟩ := p3
      exact hQ _ _ _ ⟨R1, p1, p2, rfl, p4⟩
end Go.Ev
namespace Go.Ev
variable {P : Program} {R : Rho} {m : Mem} {w : World} {ρ : Operand → Option SV}

/-! ### Values compared -/
theorem svEq_eq : (x y : SV) → svEq x y = true → x = y
  | .int k a, y => by
    cases y <;> simp only [svEq, Bool.false_eq_true, false_implies, Bool.and_eq_true]
    rintro ⟨h1, h2⟩
    rw [ieq_eq] at h2
    rw [beqK_eq h1, of_decide_eq_true h2]
  | .bool a, y => by
    cases y <;> simp only [svEq, Bool.false_eq_true, false_implies]
    rename_i b
    cases a <;> cases b <;> simp
  | .ptr n o, y => by
    cases y <;> simp only [svEq, Bool.false_eq_true, false_implies, Bool.and_eq_true, Nat.beq_eq]
    rintro ⟨rfl, rfl⟩; rfl
  | .sl n o l c, y => by
    cases y <;> simp only [svEq, Bool.false_eq_true, false_implies, Bool.and_eq_true, Nat.beq_eq]
    rintro ⟨⟨⟨rfl, rfl⟩, rfl⟩, rfl⟩; rfl
  | .slo n o l c, y => by
    cases y <;> simp only [svEq, Bool.false_eq_true, false_implies, Bool.and_eq_true, Nat.beq_eq]
    rintro ⟨⟨⟨rfl, rfl⟩, rfl⟩, rfl⟩; rfl
  | .sle n o l d e, y => by
    cases y <;> simp only [svEq, Bool.false_eq_true, false_implies, Bool.and_eq_true, Nat.beq_eq]
    rintro ⟨⟨⟨⟨rfl, rfl⟩, rfl⟩, rfl⟩, rfl⟩; rfl
  | .str s, y => by
    cases y <;> simp only [svEq, Bool.false_eq_true, false_implies, seq_eq, decide_eq_true_eq]
    rintro rfl; rfl
  | .tag t, y => by
    cases y <;> first
      | (simp only [svEq, Bool.false_eq_true, false_implies]; done)
      | skip
    rename_i u
    cases t <;> cases u <;> simp [svEq]
  | .cons a l, y => by
    cases y <;> simp only [svEq, Bool.false_eq_true, false_implies, Bool.and_eq_true]
    rintro ⟨h1, h2⟩
    rw [svEq_eq _ _ h1, svEq_eq _ _ h2]
  | .agg l, y => by
    cases y <;> simp only [svEq, Bool.false_eq_true, false_implies]
    intro h; rw [svEq_eq _ _ h]
  | .tup l, y => by
    cases y <;> simp only [svEq, Bool.false_eq_true, false_implies]
    intro h; rw [svEq_eq _ _ h]
  | .ifc t v, y => by
    cases y <;> simp only [svEq, Bool.false_eq_true, false_implies, Bool.and_eq_true, Nat.beq_eq]
    rintro ⟨rfl, h⟩; rw [svEq_eq _ _ h]
  | .fn .., y => by cases y <;> simp only [svEq, Bool.false_eq_true, false_implies]
  | .mth .., y => by cases y <;> simp only [svEq, Bool.false_eq_true, false_implies]
  | .via .., y => by cases y <;> simp only [svEq, Bool.false_eq_true, false_implies]

/-! ### The classes -/
theorem w1_vOf (x : Option SV) (f : SV → Mem → Nx) (h : ∀ v, ∃ o : Option SV, ∀ m, f v m = vOf m o) : ∃ o : Option SV, ∀ m, w1 x (fun v => f v m) = vOf m o := by
  cases x with
  | none => exact ⟨none, fun m => rfl⟩
  | some v => exact h v
theorem wl_vOf (x : Option (List SV)) (f : List SV → Mem → Nx) (h : ∀ v, ∃ o : Option SV, ∀ m, f v m = vOf m o) : ∃ o : Option SV, ∀ m, wl x (fun v => f v m) = vOf m o := by
  cases x with
  | none => exact ⟨none, fun m => rfl⟩
  | some v => exact h v
theorem bad_vOf : ∃ o : Option SV, ∀ m, Nx.bad = vOf m o := ⟨none, fun _ => rfl⟩
theorem val_vOf (v : SV) : ∃ o : Option SV, ∀ m, Nx.val v m = vOf m o := ⟨some v, fun _ => rfl⟩
theorem o_vOf (o : Option SV) : ∃ o' : Option SV, ∀ m, vOf m o = vOf m o' := ⟨o, fun _ => rfl⟩
theorem cond_vOf {b : Bool} {f g : Mem → Nx} (hf : ∃ o : Option SV, ∀ m, f m = vOf m o) (hg : ∃ o : Option SV, ∀ m, g m = vOf m o) : ∃ o : Option SV, ∀ m, cond b (f m) (g m) = vOf m o := by
  cases b
  · exact hg
  · exact hf

theorem conv_pure {s d : TypeId} {x : Operand} (hc : clsOf P (.convert s d x) = .pure) : ∃ o : Option SV, ∀ m, opS P (.convert s d x) ρ m = vOf m o := by
  simp only [opS]
  refine w1_vOf _ (fun v m => vmOf (convS P s d v m)) fun v => ?_
  unfold convS
  simp only [clsOf] at hc
  cases hs : P.underlying s with
  | none => exact ⟨none, fun m => by cases P.underlying d <;> rfl⟩
  | some S =>
    cases hd : P.underlying d with
    | none => exact ⟨none, fun m => rfl⟩
    | some D =>
      rw [hs, hd] at hc
      cases D with
      | int k =>
        cases v <;> first
          | exact ⟨none, fun m => rfl⟩
          | exact ⟨some _, fun m => rfl⟩
      | string =>
        cases S <;> first
          | (simp only at hc; cases hc; done)
          | (cases v <;> first
              | exact ⟨none, fun m => rfl⟩
              | exact ⟨some _, fun m => rfl⟩)
      | slice e =>
        simp only
        cases he : P.underlying e with
        | none => exact ⟨none, fun m => rfl⟩
        | some U =>
          cases U with
          | int k =>
            cases k <;> first
              | exact ⟨none, fun m => rfl⟩
              | (cases S <;> first
                  | (simp only at hc; cases hc; done)
                  | (cases v <;> exact ⟨none, fun m => rfl⟩))
          | _ => exact ⟨none, fun m => rfl⟩
      | _ => exact ⟨none, fun m => rfl⟩

theorem call_pure {c : Call} (hc : clsOf P (.call c) = .pure) : ∃ o : Option SV, ∀ m, opS P (.call c) ρ m = vOf m o := by
  simp only [clsOf] at hc
  cases hcl : c.callee with
  | builtin b =>
    rw [hcl] at hc
    simp only [opS, hcl]
    refine wl_vOf _ (fun a m => builtinS P b c.argTypes.toList a m) fun l => ?_
    cases b <;> first
      | (simp only at hc; cases hc; done)
      | skip
    all_goals
      simp only [builtinS]
      match l with
      | [] => exact bad_vOf
      | [x] => cases x <;> exact bad_vOf
      | x :: y :: z :: l => cases x <;> cases y <;> exact bad_vOf
      | [x, y] =>
        cases x <;> first
          | (cases y <;> exact bad_vOf; done)
          | skip
        cases y <;> first
          | exact bad_vOf
          | exact cond_vOf (f := fun m => .val _ m) (g := fun _ => .bad) (val_vOf _) bad_vOf
  | _ => rw [hcl] at hc; cases hc

theorem pure_law {op : Op} (hc : clsOf P op = .pure) : ∃ o : Option SV, ∀ m, opS P op ρ m = vOf m o := by
  cases op with
  | move x => exact o_vOf _
  | assign x => exact o_vOf _
  | pick c a b =>
    refine w1_vOf _ _ fun v => ?_
    cases v <;> first
      | exact bad_vOf
      | exact cond_vOf (o_vOf _) (o_vOf _)
  | build t ps =>
    simp only [opS]
    cases oparts ρ ps.toList with
    | none => exact bad_vOf
    | some l => exact o_vOf _
  | nilCheck x => exact w1_vOf _ _ fun v => cond_vOf (val_vOf _) bad_vOf
  | binOp op t x y z => exact w1_vOf _ (fun a m => w1 (ρ y) fun b => vOf m (binS P t op (isK x || isK y) a b)) fun a => w1_vOf _ (fun b m => vOf m (binS P t op (isK x || isK y) a b)) fun b => o_vOf _
  | unOp op t x => exact w1_vOf _ (fun a m => vOf m (unS op a)) fun a => o_vOf _
  | makeInterface t x =>
    simp only [opS]
    cases P.underlying t with
    | none => exact bad_vOf
    | some D => cases D <;> first
      | exact bad_vOf
      | exact w1_vOf _ (fun a m => .val (.ifc t a) m) fun a => val_vOf _
  | makeFunc f a c =>
    simp only [opS]
    cases f with
    | func g => exact wl_vOf _ (fun a m => wl (oall ρ c.toList) fun c => .val (.fn g (.ofL a) (.ofL c)) m) fun a => wl_vOf _ (fun c m => .val (.fn g (.ofL a) (.ofL c)) m) fun c => val_vOf _
    | method name =>
      simp only
      match a.toList, c.toList with
      | [x], [] =>
        refine w1_vOf _ (fun v m => match v with
          | .ifc t y => .val (.mth name t y) m
          | _ => .bad) fun v => ?_
        cases v <;> first
          | exact bad_vOf
          | exact val_vOf _
      | [], _ => exact bad_vOf
      | _ :: _ :: _, _ => exact bad_vOf
      | [_], _ :: _ => exact bad_vOf
    | via t path g p =>
      simp only
      match a.toList, c.toList with
      | [x], [] => exact w1_vOf _ (fun v m => .val (.via t path.toList g p v) m) fun v => val_vOf _
      | [], _ => exact bad_vOf
      | _ :: _ :: _, _ => exact bad_vOf
      | [_], _ :: _ => exact bad_vOf
    | _ => exact bad_vOf
  | fieldAddr t x i =>
    simp only [opS]
    cases fieldP P t i with
    | none => exact bad_vOf
    | some f =>
      refine cond_vOf bad_vOf (w1_vOf _ (fun a m => match a with
        | .ptr nm off => .val (.ptr nm (off + f.offset)) m
        | _ => .bad) fun v => ?_)
      cases v <;> first
        | exact bad_vOf
        | exact val_vOf _
  | field t x i =>
    simp only [opS]
    cases fieldP P t i with
    | none => exact bad_vOf
    | some f =>
      refine w1_vOf _ (fun a m => match a with
        | .agg cs => vOf m (partS P f.type cs.toL f.offset)
        | _ => .bad) fun v => ?_
      cases v <;> first
        | exact bad_vOf
        | exact o_vOf _
  | indexAddr t x i => exact w1_vOf _ (fun a m => w1 (ρ i) fun b => vOf m (indexAddrS P t a b)) fun a => w1_vOf _ (fun b m => vOf m (indexAddrS P t a b)) fun b => o_vOf _
  | index t x i => exact w1_vOf _ (fun a m => w1 (ρ i) fun b => vOf m (indexS P t a b)) fun a => w1_vOf _ (fun b m => vOf m (indexS P t a b)) fun b => o_vOf _
  | typeAssert x y a ok => exact w1_vOf _ (fun v m => vOf m (assertS P a ok v)) fun a => o_vOf _
  | extract x i =>
    refine w1_vOf _ (fun v m => match v with
      | .tup l => vOf m (nth l.toL i)
      | _ => .bad) fun v => ?_
    cases v <;> first
      | exact bad_vOf
      | exact o_vOf _
  | convert s d x => exact conv_pure hc
  | call c => exact call_pure hc
  | _ => simp only [clsOf] at hc; cases hc

/-- What reads, reads the blocks alone. -/
theorem w1_read {t : M5} (x : Option SV) (f : SV → Mem → Nx) (h : ∀ v, ∃ o : Option SV, ∀ n, f v ⟨n, t⟩ = vOf ⟨n, t⟩ o) : ∃ o : Option SV, ∀ n, w1 x (fun v => f v ⟨n, t⟩) = vOf ⟨n, t⟩ o := by
  cases x with
  | none => exact ⟨none, fun m => rfl⟩
  | some v => exact h v

theorem conv_read {s d : TypeId} {x : Operand} (hc : clsOf P (.convert s d x) = .read) (t : M5) : ∃ o : Option SV, ∀ n, opS P (.convert s d x) ρ ⟨n, t⟩ = vOf ⟨n, t⟩ o := by
  simp only [opS]
  refine w1_read _ (fun v m => vmOf (convS P s d v m)) fun v => ?_
  unfold convS
  simp only [clsOf] at hc
  cases hs : P.underlying s with
  | none => exact ⟨none, fun m => by cases P.underlying d <;> rfl⟩
  | some S =>
    cases hd : P.underlying d with
    | none => exact ⟨none, fun m => rfl⟩
    | some D =>
      rw [hs, hd] at hc
      cases S <;> first
        | (cases D <;> (simp only at hc; cases hc; done))
        | skip
      cases D <;> first
        | (simp only at hc; cases hc; done)
        | exact ⟨none, fun m => rfl⟩
        | skip
      · cases v <;> first
          | exact ⟨none, fun m => rfl⟩
          | exact ⟨some _, fun m => rfl⟩
      · rename_i e
        simp only
        have hb : ∀ (v : SV) (n : Nat), bytesS ⟨n, t⟩ v = bytesS ⟨0, t⟩ v := fun v n => by
          cases v <;> first
            | rfl
            | (rename_i u; cases u <;> rfl)
        have hd : ∀ v : SV, ∃ o : Option SV, ∀ n, vmOf (match bytesS ⟨n, t⟩ v with
            | some s => some (SV.str s, (⟨n, t⟩ : Mem))
            | none => none) = vOf ⟨n, t⟩ o := fun v => by
          cases hbs : bytesS ⟨0, t⟩ v with
          | none => exact ⟨none, fun n => by rw [hb v n, hbs]; rfl⟩
          | some s => exact ⟨some (.str s), fun n => by rw [hb v n, hbs]; rfl⟩
        cases he : P.underlying e with
        | none =>
          cases v <;> first
            | exact ⟨none, fun m => rfl⟩
            | exact ⟨some _, fun m => rfl⟩
        | some U =>
          cases U with
          | int k =>
            cases k <;> first
              | (cases v <;> first
                  | exact ⟨none, fun m => rfl⟩
                  | exact ⟨some _, fun m => rfl⟩; done)
              | skip
            have hv := hd v
            cases v <;> first
              | exact ⟨some _, fun m => rfl⟩
              | exact hv
          | _ =>
            cases v <;> first
              | exact ⟨none, fun m => rfl⟩
              | exact ⟨some _, fun m => rfl⟩

theorem call_read {c : Call} (hc : clsOf P (.call c) = .read) (t : M5) : ∃ o : Option SV, ∀ n, opS P (.call c) ρ ⟨n, t⟩ = vOf ⟨n, t⟩ o := by
  simp only [clsOf] at hc
  cases hcl : c.callee with
  | builtin b =>
    rw [hcl] at hc
    simp only [opS, hcl]
    cases oall ρ c.args.toList with
    | none => exact ⟨none, fun n => rfl⟩
    | some l =>
      cases b <;> first
        | (simp only at hc; cases hc; done)
        | skip
      simp only [wl, builtinS]
      match c.argTypes.toList, l with
      | u :: _, [x] => exact ⟨lenB P u x ⟨0, t⟩, fun n => by
          have : lenB P u x ⟨n, t⟩ = lenB P u x ⟨0, t⟩ := rfl
          simp only [this]⟩
      | [], _ => exact ⟨none, fun n => rfl⟩
      | _ :: _, [] => exact ⟨none, fun n => rfl⟩
      | _ :: _, _ :: _ :: _ => exact ⟨none, fun n => rfl⟩
  | _ => rw [hcl] at hc; cases hc

theorem read_law {op : Op} (hc : clsOf P op = .read) (t : M5) : ∃ o : Option SV, ∀ n, opS P op ρ ⟨n, t⟩ = vOf ⟨n, t⟩ o := by
  cases op with
  | load u a =>
    refine w1_read _ (fun v m => match v with
      | .ptr nm off => vOf m (loadS P u m nm off)
      | _ => .bad) fun v => ?_
    cases v <;> first
      | exact ⟨none, fun n => rfl⟩
      | (rename_i nm off; exact ⟨loadS P u ⟨0, t⟩ nm off, fun n => rfl⟩)
  | lookup u x k ok =>
    refine w1_read _ (fun a m => w1 (ρ k) fun b => vOf m (lookupS P u a b ok m)) fun a => w1_read _ (fun b m => vOf m (lookupS P u a b ok m)) fun b => ⟨lookupS P u a b ok ⟨0, t⟩, fun n => rfl⟩
  | slice u x lo hi mx =>
    refine w1_read _ (fun a m => match oopt ρ lo, oopt ρ hi, oopt ρ mx with
      | some l, some h, some k => vOf m (sliceS P u a l h k m)
      | _, _, _ => .bad) fun a => ?_
    cases oopt ρ lo with
    | none => exact ⟨none, fun n => rfl⟩
    | some l =>
      cases oopt ρ hi with
      | none => exact ⟨none, fun n => rfl⟩
      | some h =>
        cases oopt ρ mx with
        | none => exact ⟨none, fun n => rfl⟩
        | some k => exact ⟨sliceS P u a l h k ⟨0, t⟩, fun n => rfl⟩
  | convert s d x => exact conv_read hc t
  | call c => exact call_read hc t
  | _ => simp only [clsOf] at hc; cases hc
end Go.Ev
namespace Go.Ev
variable {P : Program} {R : Rho} {m : Mem} {w : World} {ρ : Operand → Option SV}

theorem fresh_law {op : Op} (hc : clsOf P op = .fresh) {v : SV} {m' : Mem} (hs : opS P op ρ m = .val v m') :
    m.nxt < 32768 ∧ ∃ b, m' = m.new b ∧ ∀ M : Mem, M.nxt = m.nxt → opS P op ρ M = .val v (M.new b) := by
  cases op with
  | alloc e =>
    simp only [opS] at hs ⊢
    cases hz : zeroRp P e with
    | none => rw [hz] at hs; cases hs
    | some r =>
      rw [hz] at hs
      simp only at hs ⊢
      cases hl : Nat.blt m.nxt 32768 with
      | false => rw [hl] at hs; cases hs
      | true =>
        rw [hl] at hs
        simp only [cond_true, Nx.val.injEq] at hs
        obtain ⟨rfl, rfl⟩ := hs
        exact ⟨by simpa using hl, _, rfl, fun M hM => by rw [hM, hl]; rfl⟩
  | box e x =>
    simp only [opS] at hs ⊢
    cases hx : ρ x with
    | none => rw [hx] at hs; cases hs
    | some u =>
      rw [hx] at hs
      simp only [w1] at hs ⊢
      cases hl : (u.nc && Nat.blt m.nxt 32768) with
      | false => rw [hl] at hs; cases hs
      | true =>
        rw [hl] at hs
        simp only [cond_true, Nx.val.injEq] at hs
        obtain ⟨rfl, rfl⟩ := hs
        refine ⟨by simp only [Bool.and_eq_true, Nat.blt_eq] at hl; exact hl.2, _, rfl, fun M hM => by rw [hM, hl]; rfl⟩
  | buildSlice t n ps =>
    simp only [opS] at hs ⊢
    cases ho : oparts ρ ps.toList with
    | none => rw [ho] at hs; cases hs
    | some l =>
      rw [ho] at hs
      simp only [buildSl] at hs ⊢
      cases hu : P.underlying t with
      | none => rw [hu] at hs; cases hs
      | some D =>
        cases D with
        | slice e =>
          rw [hu] at hs
          simp only at hs ⊢
          cases hz : zeroCs P e with
          | none => rw [hz] at hs; cases hs
          | some z =>
            rw [hz] at hs
            simp only at hs ⊢
            cases hl : (Nat.ble (n * P.cellsOf e) 100000 && Nat.blt m.nxt 32768 && Nat.beq z.length (P.cellsOf e)) with
            | false => rw [hl] at hs; cases hs
            | true =>
              rw [hl] at hs
              simp only [cond_true] at hs ⊢
              cases hf : fillS (fun i => some (i * P.cellsOf e, P.cellsOf e)) l ((List.range n).flatMap fun _ => z) with
              | none => rw [hf] at hs; cases hs
              | some k =>
                rw [hf] at hs
                simp only [vmOf, Nx.val.injEq] at hs
                obtain ⟨rfl, rfl⟩ := hs
                refine ⟨by simp only [Bool.and_eq_true, Nat.blt_eq] at hl; exact hl.1.2, _, rfl, fun M hM => by rw [hM, hl]; rfl⟩
        | _ => rw [hu] at hs; cases hs
  | makeSlice t n c =>
    simp only [opS] at hs ⊢
    cases hn : ρ n with
    | none => rw [hn] at hs; cases hs
    | some a =>
      cases hc' : ρ c with
      | none => rw [hn, hc'] at hs; cases hs
      | some b =>
        rw [hn, hc'] at hs
        simp only [w1, makeSl] at hs ⊢
        cases hu : P.underlying t with
        | none => rw [hu] at hs; cases hs
        | some D =>
          cases D with
          | slice e =>
            cases hn1 : natOf a with
            | none => rw [hu, hn1] at hs; cases hs
            | some n1 =>
              cases hn2 : natOf b with
              | none => rw [hu, hn1, hn2] at hs; cases hs
              | some c1 =>
                rw [hu, hn1, hn2] at hs
                simp only at hs ⊢
                cases hl : (Nat.ble n1 c1 && Nat.ble (P.bytesOf e * c1) 1000000 && Nat.ble c1 1000000 && okE P e && Nat.blt m.nxt 32768) with
                | false => rw [hl] at hs; cases hs
                | true =>
                  rw [hl] at hs
                  simp only [cond_true] at hs ⊢
                  cases hz : zerosRp P e c1 with
                  | none => rw [hz] at hs; cases hs
                  | some r =>
                    rw [hz] at hs
                    simp only [vmOf, Nx.val.injEq] at hs
                    obtain ⟨rfl, rfl⟩ := hs
                    refine ⟨by simp only [Bool.and_eq_true, Nat.blt_eq] at hl; exact hl.2, _, rfl, fun M hM => by rw [hM, hl]; rfl⟩
          | _ => rw [hu] at hs; cases hs
  | makeMap t r =>
    simp only [opS] at hs ⊢
    cases r with
    | some x => cases hs
    | none =>
      simp only at hs ⊢
      cases hl : Nat.blt m.nxt 32768 with
      | false => rw [hl] at hs; cases hs
      | true =>
        rw [hl] at hs
        simp only [cond_true, Nx.val.injEq] at hs
        obtain ⟨rfl, rfl⟩ := hs
        exact ⟨by simpa using hl, _, rfl, fun M hM => by rw [hM, hl]; rfl⟩
  | range t x =>
    simp only [opS] at hs ⊢
    cases hu : P.underlying t with
    | none => rw [hu] at hs; cases hs
    | some D =>
      cases D with
      | string =>
        rw [hu] at hs
        simp only at hs ⊢
        cases hx : ρ x with
        | none => rw [hx] at hs; cases hs
        | some u =>
          rw [hx] at hs
          cases u with
          | str s =>
            simp only [w1] at hs ⊢
            cases hl : Nat.blt m.nxt 32768 with
            | false => rw [hl] at hs; cases hs
            | true =>
              rw [hl] at hs
              simp only [cond_true, Nx.val.injEq] at hs
              obtain ⟨rfl, rfl⟩ := hs
              exact ⟨by simpa using hl, _, rfl, fun M hM => by rw [hM, hl]; rfl⟩
          | _ => cases hs
      | _ => rw [hu] at hs; cases hs
  | convert s d x =>
    simp only [clsOf] at hc
    simp only [opS] at hs ⊢
    cases hx : ρ x with
    | none => rw [hx] at hs; cases hs
    | some u =>
      rw [hx] at hs
      simp only [w1] at hs ⊢
      unfold convS at hs ⊢
      cases hs' : P.underlying s with
      | none => rw [hs'] at hs; cases P.underlying d <;> cases hs
      | some S =>
        cases hd : P.underlying d with
        | none => rw [hs', hd] at hs; cases hs
        | some D =>
          rw [hs', hd] at hs hc
          cases S <;> first
            | (cases D <;> (simp only at hc; cases hc; done))
            | skip
          cases D <;> first
            | (simp only at hc; cases hc; done)
            | skip
          rename_i e
          simp only at hs ⊢
          cases he : P.underlying e with
          | none => rw [he] at hs; cases hs
          | some U =>
            cases U with
            | int k =>
              rw [he] at hs
              cases k <;> first
                | (cases hs; done)
                | skip
              cases u with
              | str t =>
                simp only at hs ⊢
                cases hl : (Nat.blt m.nxt 32768 && Nat.beq (P.cellsOf e) 1) with
                | false => rw [hl] at hs; cases hs
                | true =>
                  rw [hl] at hs
                  simp only [cond_true, vmOf, Nx.val.injEq] at hs
                  obtain ⟨rfl, rfl⟩ := hs
                  refine ⟨by simp only [Bool.and_eq_true, Nat.blt_eq] at hl; exact hl.1, _, rfl, fun M hM => by rw [hM, hl]; rfl⟩
              | _ => cases hs
            | _ => rw [he] at hs; cases hs
  | call c =>
    simp only [clsOf] at hc
    cases hcl : c.callee with
    | builtin b => rw [hcl] at hc; cases b <;> cases hc
    | _ => rw [hcl] at hc; cases hc
  | _ => simp only [clsOf] at hc; cases hc

/-! ### Names that an operation doesn't make -/
theorem nmOut_eq {lo hi n : Nat} : nmOut lo hi n = true ↔ (n < lo ∨ hi ≤ n) := by simp [nmOut]
theorem bel_out {K lo hi : Nat} (h : K ≤ lo) : (v : SV) → v.bel K → v.out lo hi = true
  | .int .., _ | .bool _, _ | .str _, _ => rfl
  | .ptr _ _, hv => nmOut_eq.2 (.inl (Nat.lt_of_lt_of_le hv h))
  | .sl _ _ _ _, hv => nmOut_eq.2 (.inl (Nat.lt_of_lt_of_le hv h))
  | .slo _ _ _ _, hv => nmOut_eq.2 (.inl (Nat.lt_of_lt_of_le hv h))
  | .sle _ _ _ _ _, hv => nmOut_eq.2 (.inl (Nat.lt_of_lt_of_le hv h))
  | .agg l, hv => bel_out h l hv
  | .tup l, hv => bel_out h l hv
  | .ifc _ v, hv => bel_out h v hv
  | .mth _ _ v, hv => bel_out h v hv
  | .via _ _ _ _ v, hv => bel_out h v hv
  | .fn _ a c, hv => by simp only [SV.out, bel_out h a hv.1, bel_out h c hv.2, Bool.and_self]
  | .cons a l, hv => by simp only [SV.out, bel_out h a hv.1, bel_out h l hv.2, Bool.and_self]
  | .tag t, hv => by
    cases t <;> first
      | rfl
      | exact nmOut_eq.2 (.inl (Nat.lt_of_lt_of_le hv h))

/-- Names told alike, but for those between. -/
def Rho.but (R R' : Rho) (N lo hi : Nat) : Prop := ∀ n, n < N → (n < lo ∨ hi ≤ n) → R'.b n = R.b n ∧ R'.k n = R.k n
mutual
theorem den_out {R R' : Rho} {N lo hi : Nat} (h : R.but R' N lo hi) : (v : SV) → v.bel N → v.out lo hi = true → den R' v = den R v
  | .int .., _, _ | .bool _, _, _ | .str _, _, _ => by simp [den]
  | .ptr nm off, hv, ho => by simp [den, (h nm hv (nmOut_eq.1 ho)).1]
  | .sl nm _ _ _, hv, ho => by simp [den, (h nm hv (nmOut_eq.1 ho)).1]
  | .slo nm _ _ _, hv, ho => by simp [den, (h nm hv (nmOut_eq.1 ho)).1, (h nm hv (nmOut_eq.1 ho)).2]
  | .sle nm _ _ _ _, hv, ho => by simp [den, (h nm hv (nmOut_eq.1 ho)).1, (h nm hv (nmOut_eq.1 ho)).2]
  | .agg l, hv, ho => by simp only [den]; rw [denL_out h l hv ho]
  | .tup l, hv, ho => by simp only [den]; rw [denL_out h l hv ho]
  | .ifc _ v, hv, ho => by simp only [den]; rw [den_out h v hv ho]
  | .fn _ a c, hv, ho => by
    simp only [SV.out, Bool.and_eq_true] at ho
    simp only [den]; rw [denL_out h a hv.1 ho.1, denL_out h c hv.2 ho.2]
  | .mth _ _ v, hv, ho => by simp only [den]; rw [den_out h v hv ho]
  | .via _ _ _ _ v, hv, ho => by simp only [den]; rw [den_out h v hv ho]
  | .cons _ _, _, _ => by simp [den]
  | .tag t, hv, ho => by
    cases t with
    | mapp nm => simp only [den, (h nm hv (nmOut_eq.1 ho)).1]
    | yld nm => simp only [den, (h nm hv (nmOut_eq.1 ho)).1]
    | _ => simp [den]
theorem denL_out {R R' : Rho} {N lo hi : Nat} (h : R.but R' N lo hi) : (v : SV) → v.bel N → v.out lo hi = true → denL R' v = denL R v
  | .cons a l, hv, ho => by
    simp only [SV.out, Bool.and_eq_true] at ho
    simp only [denL]; rw [den_out h a hv.1 ho.1, denL_out h l hv.2 ho.2]
  | .int .., _, _ | .bool _, _, _ | .ptr .., _, _ | .sl .., _, _ | .slo .., _, _ | .sle .., _, _ | .str _, _, _ | .agg _, _, _ | .tup _, _, _ | .ifc .., _, _ | .fn .., _, _ | .mth .., _, _ | .via .., _, _ | .tag _, _, _ => by simp [denL]
end

theorem Rp.out_spec {lo hi : Nat} : (r : Rp) → r.out lo hi = true → ∀ v ∈ r.toList, v.out lo hi = true
  | .lit _ l, h => fun v hv => (List.all_eq_true.1 h) v hv
  | .rep n x, h => fun v hv => by
    simp only [Rp.toList, List.mem_replicate] at hv
    rw [hv.2]; exact h
  | .cat _ a b, h => fun v hv => by
    simp only [Rp.out, Bool.and_eq_true] at h
    simp only [Rp.toList, List.mem_append] at hv
    exact hv.elim (Rp.out_spec a h.1 v) (Rp.out_spec b h.2 v)

/-- What a block tells, where the names in it are told alike. -/
def blkAgree (R R' : Rho) (b : Blk) : Prop := match b with
  | .cells r _ _ _ => ∀ v ∈ r.toList, den R' v = den R v
  | .map es _ => ∀ e ∈ es, den R' e.1 = den R e.1 ∧ den R' e.2.1 = den R e.2.1
  | .loop _ _ env N _ _ _ d => R'.b d = R.b d ∧ ∀ t, t < N → den R' (env.get t) = den R (env.get t)
  | .tab l _ => ∀ v ∈ l, den R' v = den R v
  | _ => True
theorem blkRel.agree {R' : Rho} {nm : Nat} {b : Blk} {o : Option Obj} (ha : blkAgree R R' b) (hk : R'.k nm = R.k nm) (h : blkRel P R nm b o) : blkRel P R' nm b o := by
  cases b with
  | cells r el opn sty =>
    obtain ⟨arr, fr, rest, h1, h2, h3, h4, h5⟩ := h
    exact ⟨arr, fr, rest, h1, by rw [List.map_congr_left ha]; exact h2, h3, h4, fun ho => by rw [hk]; exact h5 ho⟩
  | map es c =>
    have : (es.map fun e => (⟨den R' e.1, den R' e.2.1, e.2.2⟩ : MapEntry)) = es.map fun e => ⟨den R e.1, den R e.2.1, e.2.2⟩ :=
      List.map_congr_left fun e hm => by rw [(ha e hm).1, (ha e hm).2]
    show o = _
    rw [this]
    exact h
  | strI s p => exact h
  | loop st pend env k ps a b d =>
    obtain ⟨fn, tm, h1, h2⟩ := h
    exact ⟨fn, tm, by rw [ha.1]; exact h1, h2.1, h2.2.1, fun t ht => by rw [h2.2.2 t ht, ha.2 t ht]⟩
  | dfr o => exact h
  | tab l ob =>
    obtain ⟨arr, el, fr, h1, h3, h2⟩ := h
    exact ⟨arr, el, fr, h1, h3, fun j v hv => by rw [ha v (List.mem_of_getElem? hv)]; exact h2 j v hv⟩
theorem agree_ext {R' : Rho} {K : Nat} (he : R.ext R' K) {b : Blk} (hb : b.ok K) : blkAgree R R' b := by
  cases b with
  | cells r el opn sty => exact fun v hv => den_ext he v (hb.2 v hv)
  | map es c => exact fun e hm => ⟨den_ext he _ (hb e hm).1, den_ext he _ (hb e hm).2⟩
  | loop st pend env k ps a b d => exact ⟨(he d hb.1).1, fun t ht => den_ext he _ (hb.2 t ht)⟩
  | tab l ob => exact fun v hv => den_ext he v (hb v hv)
  | _ => trivial
theorem agree_out {R' : Rho} {N lo hi : Nat} (he : R.but R' N lo hi) {b : Blk} (hb : b.ok N) (ho : b.out lo hi = true) : blkAgree R R' b := by
  cases b with
  | cells r el opn sty => exact fun v hv => den_out he v (hb.2 v hv) (Rp.out_spec r ho v hv)
  | map es c =>
    refine fun e hm => ?_
    have := (List.all_eq_true.1 ho) e hm
    simp only [Bool.and_eq_true] at this
    exact ⟨den_out he _ (hb e hm).1 this.1, den_out he _ (hb e hm).2 this.2⟩
  | loop st pend env k ps a b d => cases ho
  | tab l ob => cases ho
  | _ => trivial

/-! ### A memory by its blocks -/
theorem mem_of (f : Nat → OB) : ∀ K, K ≤ 32768 → ∃ t : M5, (∀ n, n < K → tget t n = f n) ∧ ∀ n, K ≤ n → n < 32768 → tget t n = .no
  | 0, _ => ⟨tnil, fun n hn => by omega, fun n _ _ => tget_nil n⟩
  | K + 1, h => by
    obtain ⟨t, h1, h2⟩ := mem_of f K (by omega)
    refine ⟨tset (f K) K t, fun n hn => ?_, fun n hn hn2 => ?_⟩
    · rw [tget_tset t _ (by omega) (by omega)]
      by_cases he : K = n
      · rw [if_pos he, he]
      · rw [if_neg he]; exact h1 n (by omega)
    · rw [tget_tset t _ (by omega) hn2, if_neg (by omega)]
      exact h2 n (by omega) hn2

theorem Rel.part {M M' : Mem} (h : Rel P R M w) (hn : M'.nxt ≤ M.nxt) (hg : P.globals.size ≤ M'.nxt) (hs : ∀ n b, n < M'.nxt → M'.get n = .yes b → M.get n = .yes b)
    (ho : ∀ n b, n < M'.nxt → M'.get n = .yes b → b.ok M'.nxt) (ht : ∀ n, M'.nxt ≤ n → n < 32768 → M'.get n = .no) : Rel P R M' w := by
  have hl : ∀ n, M'.live n → M.live n := fun n hl => by
    obtain ⟨h1, h2⟩ := hl
    refine ⟨Nat.lt_of_lt_of_le h1 hn, ?_⟩
    cases hg : M'.get n with
    | no => exact absurd hg h2
    | yes b => rw [hs n b h1 hg]; exact fun e => by cases e
  exact ⟨Nat.le_trans hn h.lim, h.glob, hg, fun i j hi hj e => h.inj i j (hl i hi) (hl j hj) e, ho, fun n b hn' hg' => h.blk n b (Nat.lt_of_lt_of_le hn' hn) (hs n b hn' hg'), ht⟩

/-- **A step in a part of the memory, as a step of the whole.** -/
theorem frame_step {R0 R' : Rho} {m0 M Mi Mi' M' : Mem} {w0 w' : World} (h : Post P R0 m0 w0 R M w) (hi : Post P R Mi w R' Mi' w') (h0 : m0.nxt ≤ Mi.nxt) (hle : Mi'.nxt ≤ M.nxt)
    (hsub : ∀ n b, n < Mi.nxt → Mi.get n = .yes b → M.get n = .yes b) (hn : M'.nxt = M.nxt) (htop : ∀ n, M'.nxt ≤ n → n < 32768 → M'.get n = .no)
    (hM : ∀ n b, n < M'.nxt → M'.get n = .yes b → (n < Mi'.nxt ∧ Mi'.get n = .yes b) ∨
      (M.get n = .yes b ∧ (n < Mi.nxt → Mi.get n = .no) ∧ (n < Mi.nxt ∨ Mi'.nxt ≤ n) ∧ (b.ok Mi.nxt ∨ b.out Mi.nxt Mi'.nxt = true))) :
    ∃ R2, Post P R0 m0 w0 R2 M' w' ∧ R.but R2 M.nxt Mi.nxt Mi'.nxt ∧ R'.ext R2 Mi'.nxt ∧ R.ext R2 Mi.nxt := by
  let R2 : Rho := ⟨fun n => if Mi.nxt ≤ n ∧ n < Mi'.nxt then R'.b n else R.b n, fun n => if Mi.nxt ≤ n ∧ n < Mi'.nxt then R'.k n else R.k n⟩
  have hbut : R.but R2 M.nxt Mi.nxt Mi'.nxt := fun n _ ho => by
    have : ¬ (Mi.nxt ≤ n ∧ n < Mi'.nxt) := by omega
    exact ⟨if_neg this, if_neg this⟩
  have hext2 : R.ext R2 Mi.nxt := fun n hn => by
    have : ¬ (Mi.nxt ≤ n ∧ n < Mi'.nxt) := by omega
    exact ⟨if_neg this, if_neg this⟩
  have hext' : R'.ext R2 Mi'.nxt := fun n hn => by
    by_cases hh : Mi.nxt ≤ n ∧ n < Mi'.nxt
    · exact ⟨if_pos hh, if_pos hh⟩
    · have h1 : n < Mi.nxt := by omega
      exact ⟨(hext2 n h1).1.trans (hi.ext n h1).1.symm, (hext2 n h1).2.trans (hi.ext n h1).2.symm⟩
  have live_of : ∀ {X : Mem} {n : Nat} {b : Blk}, n < X.nxt → X.get n = .yes b → X.live n := fun h1 h2 => ⟨h1, by rw [h2]; exact fun e => by cases e⟩
  have hMlive : ∀ n, Mi.live n → M.live n := fun n hl => by
    obtain ⟨h1, h2⟩ := hl
    have := hi.nxt
    cases hg : Mi.get n with
    | no => exact absurd hg h2
    | yes b => exact live_of (by omega) (hsub n b h1 hg)
  -- an extra block's place
  have extra : ∀ n b, n < M.nxt → M.get n = .yes b → (n < Mi.nxt → Mi.get n = .no) → (n < Mi.nxt ∨ Mi'.nxt ≤ n) →
      R2.b n = R.b n ∧ R2.k n = R.k n ∧ R.b n < w.heap.size ∧ (∀ k, Mi.live k → R.b k ≠ R.b n) ∧ w'.heap[R.b n]? = w.heap[R.b n]? := by
    intro n b hn hg hno hpl
    have hl := live_of hn hg
    have hlt := h.rel.block_lt hl
    have hne : ∀ k, Mi.live k → R.b k ≠ R.b n := fun k hk e => by
      have := h.rel.inj k n (hMlive k hk) hl e
      subst this
      exact hk.2 (hno hk.1)
    have := hbut n hn hpl
    exact ⟨this.1, this.2, hlt, hne, hi.keep _ hlt hne⟩
  refine ⟨R2, ⟨⟨?_, ?_, ?_, ?_, ?_, ?_, htop⟩, ?_, ?_, ?_, ?_, ?_, hi.os.trans h.os, hi.tape.trans h.tape, hi.output.trans h.output⟩, hbut, hext', hext2⟩
  · rw [hn]; exact h.rel.lim
  · intro g hg
    have := hi.rel.gl
    rw [(hext' g (by omega)).1]
    exact hi.rel.glob g hg
  · rw [hn]; exact h.rel.gl
  · intro i j hi1 hj1 e
    obtain ⟨bi, hbi⟩ : ∃ b, M'.get i = .yes b := by
      cases hg : M'.get i with
      | no => exact absurd hg hi1.2
      | yes b => exact ⟨b, rfl⟩
    obtain ⟨bj, hbj⟩ : ∃ b, M'.get j = .yes b := by
      cases hg : M'.get j with
      | no => exact absurd hg hj1.2
      | yes b => exact ⟨b, rfl⟩
    -- a block of the part against an extra one
    have cross : ∀ i j bi bj, i < Mi'.nxt → Mi'.get i = .yes bi → j < M'.nxt → M.get j = .yes bj → (j < Mi.nxt → Mi.get j = .no) → (j < Mi.nxt ∨ Mi'.nxt ≤ j) → R2.b i ≠ R2.b j := by
      intro i j bi bj hi2 hgi hj2 hgj hno hpl e
      obtain ⟨k1, _, k2, k3, _⟩ := extra j bj (hn ▸ hj2) hgj hno hpl
      rw [(hext' i hi2).1, k1] at e
      rcases hi.new i (live_of hi2 hgi) with ⟨k, hk, ek⟩ | hge
      · exact k3 k hk (ek ▸ e)
      · omega
    rcases hM i bi hi1.1 hbi with ⟨ai, ci⟩ | ⟨ai, ci, di, _⟩ <;> rcases hM j bj hj1.1 hbj with ⟨aj, cj⟩ | ⟨aj, cj, dj, _⟩
    · rw [(hext' i ai).1, (hext' j aj).1] at e
      exact hi.rel.inj i j (live_of ai ci) (live_of aj cj) e
    · exact absurd e (cross i j bi bj ai ci hj1.1 aj cj dj)
    · exact absurd e.symm (cross j i bj bi aj cj hi1.1 ai ci di)
    · have k1 := extra i bi (hn ▸ hi1.1) ai ci di
      have k2 := extra j bj (hn ▸ hj1.1) aj cj dj
      rw [k1.1, k2.1] at e
      exact h.rel.inj i j (live_of (hn ▸ hi1.1) ai) (live_of (hn ▸ hj1.1) aj) e
  · intro n b hn1 hg
    rw [hn]
    rcases hM n b hn1 hg with ⟨a1, a2⟩ | ⟨a1, _⟩
    · exact Blk.ok_mono hle (hi.rel.ok n b a1 a2)
    · exact h.rel.ok n b (hn ▸ hn1) a1
  · intro n b hn1 hg
    rcases hM n b hn1 hg with ⟨a1, a2⟩ | ⟨a1, a2, a3, a4⟩
    · rw [(hext' n a1).1]
      exact blkRel.agree (agree_ext hext' (hi.rel.ok n b a1 a2)) (hext' n a1).2 (hi.rel.blk n b a1 a2)
    · obtain ⟨k1, k1', k2, k3, k4⟩ := extra n b (hn ▸ hn1) a1 a2 a3
      rw [k1, k4]
      refine blkRel.agree ?_ k1' (h.rel.blk n b (hn ▸ hn1) a1)
      rcases a4 with a4 | a4
      · exact agree_ext hext2 a4
      · exact agree_out hbut (h.rel.ok n b (hn ▸ hn1) a1) a4
  · exact Rho.ext_trans h.ext hext2 h0
  · rw [hn]; exact h.nxt
  · exact Nat.le_trans h.size hi.size
  · intro b hb hno
    refine (hi.keep b (Nat.lt_of_lt_of_le hb h.size) fun k hk e => ?_).trans (h.keep b hb hno)
    rcases h.new k (hMlive k hk) with ⟨j, hj, ej⟩ | hge
    · exact hno j hj (ej.symm.trans e)
    · omega
  · intro n hl
    obtain ⟨b, hb⟩ : ∃ b, M'.get n = .yes b := by
      cases hg : M'.get n with
      | no => exact absurd hg hl.2
      | yes b => exact ⟨b, rfl⟩
    rcases hM n b hl.1 hb with ⟨a1, a2⟩ | ⟨a1, a2, a3, _⟩
    · rw [(hext' n a1).1]
      rcases hi.new n (live_of a1 a2) with ⟨k, hk, ek⟩ | hge
      · rcases h.new k (hMlive k hk) with ⟨j, hj, ej⟩ | hge
        · exact .inl ⟨j, hj, ek.trans ej⟩
        · exact .inr (by rw [ek]; exact hge)
      · exact .inr (Nat.le_trans h.size hge)
    · obtain ⟨k1, _⟩ := extra n b (hn ▸ hl.1) a1 a2 a3
      rw [k1]
      exact h.new n (live_of (hn ▸ hl.1) a1)
end Go.Ev
namespace Go.Ev
variable {P : Program} {R : Rho} {m : Mem} {w : World}

/-! ### What must come before -/
def befOf (acc : List Nat) (o : Oper) : Nat := o.after.toList.foldl (fun s e => cond (Region.binds .any e) (s ||| 2 ^ e.on ||| (acc.getD e.on 0)) s) 0
theorem befOf_spec (acc : List Nat) (j : Nat) : ∀ (l : List Edge) (s : Nat), (l.foldl (fun s e => cond (Region.binds .any e) (s ||| 2 ^ e.on ||| (acc.getD e.on 0)) s) s).testBit j = true →
    s.testBit j = true ∨ ∃ e ∈ l, Region.binds .any e = true ∧ (e.on = j ∨ (acc.getD e.on 0).testBit j = true)
  | [], s, h => .inl h
  | e :: l, s, h => by
    rcases befOf_spec acc j l _ h with h | ⟨e', h1, h2⟩
    · simp only at h
      cases hb : Region.binds .any e with
      | false => rw [hb] at h; exact .inl h
      | true =>
        rw [hb, cond_true, Nat.testBit_or, Nat.testBit_or, Bool.or_eq_true, Bool.or_eq_true] at h
        rcases h with (h | h) | h
        · exact .inl h
        · exact .inr ⟨e, by simp, hb, .inl (by rw [Nat.testBit_two_pow] at h; exact of_decide_eq_true h)⟩
        · exact .inr ⟨e, by simp, hb, .inr h⟩
    · exact .inr ⟨e', by simp [h1], h2⟩
theorem befGo_spec : ∀ (l : List Oper) (acc : List Nat), ∃ r, befGo l acc = acc ++ r ∧ r.length = l.length ∧ ∀ j o, l[j]? = some o → r[j]? = some (befOf (acc ++ r.take j) o)
  | [], acc => ⟨[], by simp [befGo], rfl, fun j o h => by simp at h⟩
  | o :: l, acc => by
    obtain ⟨r, h1, h2, h3⟩ := befGo_spec l (acc ++ [befOf acc o])
    refine ⟨befOf acc o :: r, by simp only [befGo]; show befGo l (acc ++ [befOf acc o]) = _; rw [h1]; simp, by simp [h2], fun j o' h => ?_⟩
    cases j with
    | zero =>
      simp only [List.getElem?_cons_zero, Option.some.injEq] at h
      subst h
      simp
    | succ j =>
      simp only [List.getElem?_cons_succ] at h ⊢
      rw [h3 j o' h]
      simp
theorem hasB_spec {ops : Array Oper} {i j : Nat} (h : hasB (befs ops.toList) i j = true) :
    ∃ o e, ops[i]? = some o ∧ e ∈ o.after ∧ Region.binds .any e = true ∧ (e.on = j ∨ (e.on < i ∧ hasB (befs ops.toList) e.on j = true)) := by
  obtain ⟨r, h1, h2, h3⟩ := befGo_spec ops.toList []
  unfold hasB befs at h
  rw [h1, List.nil_append] at h
  by_cases hi : i < ops.size
  · have ho : ops.toList[i]? = some ops[i] := by simp [hi]
    have hr := h3 i _ ho
    rw [List.getD_eq_getElem?_getD, hr, Option.getD_some] at h
    rcases befOf_spec _ j _ 0 h with h | ⟨e, e1, e2, e3⟩
    · simp at h
    · refine ⟨ops[i], e, by simp [hi], by simpa using e1, e2, ?_⟩
      rcases e3 with e3 | e3
      · exact .inl e3
      · right
        rw [List.nil_append, List.getD_eq_getElem?_getD] at e3
        have hlt : e.on < i := by
          rcases Nat.lt_or_ge e.on i with h' | h'
          · exact h'
          · rw [List.getElem?_eq_none (by simp; omega)] at e3
            simp at e3
        refine ⟨hlt, ?_⟩
        unfold hasB befs
        rw [h1, List.nil_append, List.getD_eq_getElem?_getD]
        rw [List.getElem?_take, if_pos hlt] at e3
        exact e3
  · rw [List.getD_eq_getElem?_getD, List.getElem?_eq_none (by rw [h2]; simp; omega)] at h
    simp at h

/-- What is needed of the list of what has come up. -/
def Closed (ops : Array Oper) (L : Nat → Prop) : Prop := ∀ i o, L i → ops[i]? = some o → ∀ e ∈ o.after, Region.binds .any e = true → L e.on
theorem closed_hasB {ops : Array Oper} {L : Nat → Prop} (hc : Closed ops L) : ∀ (i j : Nat), (∀ o, ops[i]? = some o → ∀ e ∈ o.after, Region.binds .any e = true → L e.on) → hasB (befs ops.toList) i j = true → L j := by
  intro i
  induction i using Nat.strongRecOn with
  | _ i ih =>
    intro j hi h
    obtain ⟨o, e, h1, h2, h3, h4⟩ := hasB_spec h
    rcases h4 with rfl | ⟨h4, h5⟩
    · exact hi o h1 e h2 h3
    · exact ih e.on h4 j (fun o' ho' => hc e.on o' (hi o h1 e h2 h3) ho') h5

structure DrawFits (P : Program) (ops : Array Oper) : Prop where
  low : ∀ (i : Nat) (o : Oper), ops[i]? = some o → ∀ e ∈ o.after, Region.binds .any e = true → e.on < i
  one : ∀ (i j : Nat) (o p : Oper) t, ops[i]? = some o → ops[j]? = some p → i ≠ j → p.dst = some t → o.dst ≠ some t
  look : ∀ (i j : Nat) (o p : Oper) t, ops[i]? = some o → ops[j]? = some p → i ≠ j → p.dst = some t → t ∈ o.looksAt ops → hasB (befs ops.toList) i j = true ∨ hasB (befs ops.toList) j i = true
  loud : ∀ (i j : Nat) (o p : Oper), ops[i]? = some o → ops[j]? = some p → j < i → isLoud P o = true → (isLoud P p = true ∨ isFresh P p = true) → hasB (befs ops.toList) i j = true
theorem dstIs_iff {t : Nat} {o : Oper} : dstIs t o = true ↔ o.dst = some t := by
  unfold dstIs
  cases o.dst with
  | none => simp
  | some u => simp
theorem uniqD_spec : ∀ (l : List Oper), uniqD l = true → ∀ (i j : Nat) (o p : Oper) (t : Tmp), l[i]? = some o → l[j]? = some p → i < j → o.dst = some t → p.dst ≠ some t
  | [], _, i, j, o, p, t, ho, _, _, _ => by simp at ho
  | q :: l, h, i, j, o, p, t, ho, hp, hij, hd => by
    simp only [uniqD, Bool.and_eq_true] at h
    cases j with
    | zero => omega
    | succ j =>
      simp only [List.getElem?_cons_succ] at hp
      cases i with
      | zero =>
        simp only [List.getElem?_cons_zero, Option.some.injEq] at ho
        subst ho
        have ha := h.1
        rw [hd] at ha
        simp only [uniq1] at ha
        have := (List.all_eq_true.1 ha) p (List.mem_of_getElem? hp)
        intro e
        rw [dstIs_iff.2 e] at this
        cases this
      | succ i =>
        simp only [List.getElem?_cons_succ] at ho
        exact uniqD_spec l h.2 i j o p t ho hp (by omega) hd
theorem findW_spec (t : Nat) : ∀ (l : List Oper) (k : Nat), (∀ q, findW t l k = some q → k ≤ q ∧ ∃ o, l[q - k]? = some o ∧ o.dst = some t) ∧ (findW t l k = none → ∀ o ∈ l, o.dst ≠ some t)
  | [], k => ⟨fun q h => (by cases h), fun _ o ho => (by cases ho)⟩
  | o :: l, k => by
    obtain ⟨h1, h2⟩ := findW_spec t l (k + 1)
    simp only [findW]
    cases hd : dstIs t o with
    | true =>
      refine ⟨fun q h => ?_, fun h => (by cases h)⟩
      simp only [cond_true, Option.some.injEq] at h
      subst h
      exact ⟨Nat.le_refl _, o, by simp, dstIs_iff.1 hd⟩
    | false =>
      simp only [cond_false]
      refine ⟨fun q h => ?_, fun h p hp => ?_⟩
      · obtain ⟨k1, p, k2, k3⟩ := h1 q h
        refine ⟨by omega, p, ?_, k3⟩
        have : q - k = (q - (k + 1)) + 1 := by omega
        rw [this, List.getElem?_cons_succ]
        exact k2
      · rcases List.mem_cons.1 hp with rfl | hp
        · intro e; rw [dstIs_iff.2 e] at hd; cases hd
        · exact h2 h p hp
theorem drawOK_fits {ops : Array Oper} (h : drawOK P ops = true) : DrawFits P ops := by
  unfold drawOK at h
  simp only [Bool.and_eq_true, List.all_eq_true] at h
  obtain ⟨hu, h⟩ := h
  have hm : ∀ i o, ops[i]? = some o → (o, i) ∈ ops.toList.zipIdx := fun i o ho => by
    rw [List.mem_zipIdx_iff_getElem?]
    simpa using ho
  have hone : ∀ (i j : Nat) (o p : Oper) (t : Tmp), ops[i]? = some o → ops[j]? = some p → i ≠ j → p.dst = some t → o.dst ≠ some t := fun i j o p t ho hp hij hd e => by
    have ho' : ops.toList[i]? = some o := by simpa using ho
    have hp' : ops.toList[j]? = some p := by simpa using hp
    rcases Nat.lt_or_ge i j with hlt | hge
    · exact uniqD_spec _ hu i j o p t ho' hp' hlt e hd
    · exact uniqD_spec _ hu j i p o t hp' ho' (by omega) hd e
  have h1 : ∀ i o, ops[i]? = some o → _ := fun i o ho => h (o, i) (hm i o ho)
  refine ⟨fun i o ho e he hb => ?_, hone, fun i j o p t ho hp hij hd ht => ?_, fun i j o p ho hp hij hl hf => ?_⟩
  · have := (h1 i o ho).1.1 e (by simpa using he)
    simpa [hb] using this
  · have h2 := (h1 i o ho).1.2 t ht
    obtain ⟨f1, f2⟩ := findW_spec t ops.toList 0
    cases hf : findW t ops.toList 0 with
    | none => exact absurd hd (f2 hf p (List.mem_of_getElem? (show ops.toList[j]? = some p by simpa using hp)))
    | some q =>
      rw [hf] at h2
      obtain ⟨_, p', g1, g2⟩ := f1 q hf
      have hq : ops[q]? = some p' := by simpa using g1
      have hqj : q = j := by
        by_cases e : q = j
        · exact e
        · exact absurd g2 (hone q j p' p t hq hp e hd)
      subst hqj
      simp only [Bool.or_eq_true] at h2
      rcases h2 with (h2 | h2) | h2
      · exact absurd (Nat.eq_of_beq_eq_true h2).symm hij
      · exact .inl h2
      · exact .inr h2
  · have h2 := (h1 i o ho).2
    rw [hl] at h2
    simp only [Bool.not_true, Bool.false_or, List.all_eq_true] at h2
    have hmem : j ∈ ((ops.toList.zipIdx.filter fun q => isLoud P q.1 || isFresh P q.1).map (·.2)) := by
      refine List.mem_map.2 ⟨(p, j), List.mem_filter.2 ⟨hm j p hp, by simpa using hf⟩, rfl⟩
    have := h2 j hmem
    have hlt : Nat.blt j i = true := by simpa using hij
    simpa [hlt] using this
theorem DrawFits.lt {ops : Array Oper} (h : DrawFits P ops) : ∀ (i j : Nat), hasB (befs ops.toList) i j = true → j < i := by
  intro i
  induction i using Nat.strongRecOn with
  | _ i ih =>
    intro j hh
    obtain ⟨o, e, h1, h2, h3, h4⟩ := hasB_spec hh
    have := h.low i o h1 e h2 h3
    rcases h4 with rfl | ⟨h4, h5⟩
    · exact this
    · have := ih e.on h4 j h5
      omega

/-! ### One operation's law -/
theorem loud_ok {E : EvF} (hC : CallOK P E) (hRd : RoundOK P E) {ro : Option Nat} {R0 : Rho} {ρ : Operand → Option SV} {σ : Operand → Value} (h : Rel P R m w) (hρ : Opd R m.nxt ρ σ) {o : Oper} {a : Act}
    (heq : execOp a.eval o = execOp σ o) {v : SV} {m' : Mem} (hs : loudS P E o.op ρ m = some (v, m')) {next : Act → World → Prop} {Q : Exit → Act → World → Prop}
    (hnx : ∀ R' w', Post P R m w R' m' w' → v.bel m'.nxt → next (a.put o.dst (den R' v)) w') : o.wpIn (fnc R0 ro) 0 P a w next Q := by
  refine ⟨fnc_about R0 ro, ?_⟩
  unfold loudS at hs
  cases hx : opS P o.op ρ m with
  | val v' m1 =>
    rw [hx] at hs
    simp only [Option.some.injEq, Prod.mk.injEq] at hs
    obtain ⟨rfl, rfl⟩ := hs
    have hnd : ∀ c, o.op ≠ .defer c := fun c hc => by
      rw [hc] at hx
      simp only [opS] at hx
      split at hx <;> first | (cases hx; done) | skip
      obtain ⟨u, e1, hx⟩ := w1_of hx (fun e => by cases e)
      obtain ⟨l, e2, hx⟩ := wl_of hx (fun e => by cases e)
      cases u <;> cases hx
    rw [Oper.semAt_eq _ _ _ hnd, heq]
    obtain ⟨R', w', h1, h2, h3⟩ := op_val h hρ hx
    rcases h1 with h1 | ⟨h1, rfl⟩
    · rw [h1]; exact hnx R' w' h2 h3
    · rw [h1]
      show next (a.put o.dst undef) w'
      rw [← den_und R']
      exact hnx R' w' h2 h3
  | enter f args m1 =>
    rw [hx] at hs
    obtain ⟨c, hc⟩ := op_enter hx
    rw [Oper.semAt_eq _ _ _ (fun c' hc' => by rw [hc] at hc'; cases hc'), heq]
    obtain ⟨dst, op, ty, pos, aft, grd⟩ := o
    simp only at hc
    subst hc
    obtain ⟨k1, k2, k3⟩ := call_enter (dst := dst) (ty := ty) (pos := pos) (aft := aft) (grd := grd) h hρ hx
    rw [k2] at hs
    simp only at hs
    cases hE : E.call f args m with
    | none => rw [hE] at hs; cases hs
    | some q =>
      obtain ⟨e, m2⟩ := q
      rw [hE] at hs
      cases e with
      | pan ch => cases hs
      | ret u =>
        simp only [Option.some.injEq, Prod.mk.injEq] at hs
        obtain ⟨rfl, rfl⟩ := hs
        rw [k1]
        refine uponIn_call (fnc_depth R0 ro) (fun f args w K hh => fnc_calls R0 ro hh) (fun f args w K hh => fnc_rows R0 ro hh) (hC _ _ _ _ _ hE R w h k3) (fun v w' hv => ?_) (fun ch w' hv => ?_) (fun w' hv => EndOK.not_out hv)
        · obtain ⟨R', p1, p2, p3⟩ := hv
          simp only [Ending.returned.injEq] at p2
          subst p2
          exact hnx R' w' p1 p3
        · obtain ⟨R', p1, p2, p3⟩ := hv
          cases p2
  | round l args m1 =>
    rw [hx] at hs
    obtain ⟨c, hc⟩ := op_round hx
    rw [Oper.semAt_eq _ _ _ (fun c' hc' => by rw [hc] at hc'; cases hc'), heq]
    obtain ⟨dst, op, ty, pos, aft, grd⟩ := o
    simp only at hc
    subst hc
    obtain ⟨k1, k2, k3, k4⟩ := call_round (w := w) (dst := dst) (ty := ty) (pos := pos) (aft := aft) (grd := grd) hρ hx
    rw [k1] at hs
    obtain ⟨f, tmps, asg, body, j1, j2⟩ := hRd _ _ _ _ _ hs R w h k2 k3
    rw [k4, j1]
    refine ⟨fun hh => (by rw [fnc_depth] at hh; cases hh), (fnc_rounds R0 ro j2).mono fun e w' he => ?_⟩
    obtain ⟨R', p1, p2, p3⟩ := he
    subst p2
    exact hnx R' w' p1 p3
  | _ => rw [hx] at hs; cases hs

/-- That there is such a step. -/
theorem loud_step {E : EvF} (hC : CallOK P E) (hRd : RoundOK P E) {ρ : Operand → Option SV} {σ : Operand → Value} (h : Rel P R m w) (hρ : Opd R m.nxt ρ σ) {o : Oper}
    {v : SV} {m' : Mem} (hs : loudS P E o.op ρ m = some (v, m')) : ∃ R' w', Post P R m w R' m' w' ∧ v.bel m'.nxt := by
  unfold loudS at hs
  cases hx : opS P o.op ρ m with
  | val v' m1 =>
    rw [hx] at hs
    simp only [Option.some.injEq, Prod.mk.injEq] at hs
    obtain ⟨rfl, rfl⟩ := hs
    obtain ⟨R', w', _, h2, h3⟩ := op_val h hρ hx
    exact ⟨R', w', h2, h3⟩
  | enter f args m1 =>
    rw [hx] at hs
    obtain ⟨c, hc⟩ := op_enter hx
    obtain ⟨dst, op, ty, pos, aft, grd⟩ := o
    simp only at hc
    subst hc
    obtain ⟨_, k2, k3⟩ := call_enter (dst := dst) (ty := ty) (pos := pos) (aft := aft) (grd := grd) h hρ hx
    rw [k2] at hs
    simp only at hs
    cases hE : E.call f args m with
    | none => rw [hE] at hs; cases hs
    | some q =>
      obtain ⟨e, m2⟩ := q
      rw [hE] at hs
      cases e with
      | pan ch => cases hs
      | ret u =>
        simp only [Option.some.injEq, Prod.mk.injEq] at hs
        obtain ⟨rfl, rfl⟩ := hs
        have hcr := hC _ _ _ _ _ hE R w h k3
        obtain ⟨e', w', R', p1, p2⟩ : ∃ e' w', EndOK P R m w (.ret u) m2 e' w' := by
          generalize (callFunc f (args.map (den R)).toArray).run P w = r at hcr
          cases r with
          | halt x w' => exact hcr.elim
          | ok x w' =>
            cases x with
            | value v => exact ⟨_, _, hcr⟩
            | enter g as =>
              obtain ⟨e, w1, fr, he, _⟩ := hcr.2 [] (room_wide _)
              exact ⟨e, w1, he⟩
            | row r as =>
              obtain ⟨v, w1, he, _⟩ := hcr default [] (room_wide _)
              exact ⟨_, w1, he⟩
            | _ => exact hcr.elim
        exact ⟨R', w', p1, p2.2⟩
  | round l args m1 =>
    rw [hx] at hs
    obtain ⟨c, hc⟩ := op_round hx
    obtain ⟨dst, op, ty, pos, aft, grd⟩ := o
    simp only at hc
    subst hc
    obtain ⟨k1, k2, k3, k4⟩ := call_round (w := w) (dst := dst) (ty := ty) (pos := pos) (aft := aft) (grd := grd) hρ hx
    rw [k1] at hs
    obtain ⟨f, tmps, asg, body, j1, j2⟩ := hRd _ _ _ _ _ hs R w h k2 k3
    obtain ⟨e, w1, ⟨R', p1, p2⟩, _⟩ := j2.2 default [] (room_wide _)
    exact ⟨R', w1, p1, p2.2⟩
  | _ => rw [hx] at hs; cases hs
end Go.Ev
