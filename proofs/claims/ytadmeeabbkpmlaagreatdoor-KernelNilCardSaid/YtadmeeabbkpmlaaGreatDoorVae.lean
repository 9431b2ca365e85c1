/- The evaluator: calls that enter a function. The evaluator: calls of method values. The evaluator: every call that enters; panics; deferred calls. The evaluator: calls of built-in functions. The evaluator: operands in a frame. The evaluator: what an operation's abstract answer tells of its form. The evaluator: the operations of a region that does not draw. The evaluator: loops; a range over a function: its record. The evaluator: code. The evaluator: what a function gets and gives; deferred calls. -/
import Derived.Test.YtadmeeabbkpmlaaGreatDoorVad
import Derived.Test.YtadmeeabbkpmlaaGreatDoorVab
import Derived.CallsIn
import Derived.TacticsIn
import Derived.RangeFuncLeaves
import Derived.Scope
set_option linter.unusedSimpArgs false
set_option linter.unusedVariables false
namespace Go.Ev
variable {P : Program} {R : Rho} {m : Mem} {w : World} {ρ : Operand → Option SV} {σ : Operand → Value} {dst : Option Tmp} {ty : TypeId} {pos : String} {aft : Array Edge} {grd : Option (Nat × Bool)}

theorem w1_of {o : Option SV} {f : SV → Nx} {n : Nx} (h : w1 o f = n) (hn : n ≠ .bad) : ∃ x, o = some x ∧ f x = n := by
  cases o with
  | none => exact absurd h.symm hn
  | some x => exact ⟨x, rfl, h⟩
theorem wl_of {o : Option (List SV)} {f : List SV → Nx} {n : Nx} (h : wl o f = n) (hn : n ≠ .bad) : ∃ x, o = some x ∧ f x = n := by
  cases o with
  | none => exact absurd h.symm hn
  | some x => exact ⟨x, rfl, h⟩
theorem map_arr {a : Array Operand} {l : List Value} (h : a.toList.map σ = l) : a.map σ = l.toArray := by rw [← h, ← Array.toList_map, Array.toArray_toList]

theorem invoke_enter (h : Rel P R m w) (hρ : Opd R m.nxt ρ σ) {c : Call} {r : Operand} {name : String} (hc : c.callee = .invoke r name) {g : FuncId} {args : List SV} {m' : Mem} (hs : opS P (.call c) ρ m = .enter g args m') :
    (execOp σ ⟨dst, .call c, ty, pos, aft, grd⟩).run P w = (callFunc g (args.map (den R)).toArray).run P w ∧ m' = m ∧ ∀ v ∈ args, v.bel m.nxt := by
  simp only [opS, hc] at hs
  obtain ⟨u, e1, hs⟩ := w1_of hs (fun e => by cases e)
  obtain ⟨l, e2, hs⟩ := wl_of hs (fun e => by cases e)
  obtain ⟨k1, k2⟩ := hρ _ _ e1
  obtain ⟨a1, a2⟩ := oall_ok hρ e2
  obtain ⟨t, y, rfl⟩ : ∃ t y, u = .ifc t y := by
    cases u <;> first | exact ⟨_, _, rfl⟩ | (cases hs; done)
  simp only at hs
  cases hm : methodS P t name y m with
  | none => simp only [hm] at hs; cases hs
  | some q =>
    simp only [hm, Nx.enter.injEq] at hs
    obtain ⟨rfl, rfl, rfl⟩ := hs
    have hd : P.types.size + Made.depth = (P.types.size + Made.depth - 1) + 1 := by
      have : 0 < Made.depth := by decide
      omega
    have k3 : y.bel m.nxt := k2
    obtain ⟨m1, m2⟩ := method_ok h k3 hm (P.types.size + Made.depth - 1)
    rw [← hd] at m1
    refine ⟨?_, rfl, fun v hv => ?_⟩
    · have ea := map_arr a1
      have e0 : (#[Value.iface t (den R y)] ++ (l.map (den R)).toArray : Array Value)[0]? = some (.iface t (den R y)) := by simp
      have e3 : (#[Value.iface t (den R y)] ++ (l.map (den R)).toArray : Array Value).extract 1 (#[Value.iface t (den R y)] ++ (l.map (den R)).toArray : Array Value).size = (l.map (den R)).toArray := by
        apply Array.ext'
        simp
        exact List.take_of_length_le (by simp)
      simp only [execOp, resolve, hc, k1, den, ea, Sem.run_bind, Sem.run_pure, Result.andThen_ok, invoke, e0, e3, callMethod, run_program, m1]
      simp
    · rcases List.mem_cons.1 hv with rfl | hv
      · exact m2
      · exact a2 v hv

theorem value_enter (hρ : Opd R m.nxt ρ σ) {c : Call} {f : Operand} (hc : c.callee = .value f) {g : FuncId} {fs cap : SV} (hf : ρ f = some (.fn g fs cap)) {g' : FuncId} {args : List SV} {m' : Mem} (hs : opS P (.call c) ρ m = .enter g' args m') :
    (execOp σ ⟨dst, .call c, ty, pos, aft, grd⟩).run P w = (callFunc g' (args.map (den R)).toArray).run P w ∧ m' = m ∧ ∀ v ∈ args, v.bel m.nxt := by
  simp only [opS, hc, hf, w1] at hs
  obtain ⟨l, e2, hs⟩ := wl_of hs (fun e => by cases e)
  obtain ⟨k1, k2⟩ := hρ _ _ hf
  obtain ⟨a1, a2⟩ := oall_ok hρ e2
  simp only [callV, Nx.enter.injEq] at hs
  obtain ⟨rfl, rfl, rfl⟩ := hs
  refine ⟨?_, rfl, fun v hv => ?_⟩
  · have ea := map_arr a1
    simp only [execOp, resolve, hc, k1, den, ea, Sem.run_bind, Sem.run_pure, Result.andThen_ok, Deferred.ofValue, invoke, denL_toL]
    simp
  · rcases List.mem_append.1 hv with hv | hv
    · rcases List.mem_append.1 hv with hv | hv
      · exact toL_bel fs k2.1 v hv
      · exact a2 v hv
    · exact toL_bel cap k2.2 v hv
end Go.Ev
namespace Go.Ev
variable {P : Program} {R : Rho} {m : Mem} {w : World} {ρ : Operand → Option SV} {σ : Operand → Value} {dst : Option Tmp} {ty : TypeId} {pos : String} {aft : Array Edge} {grd : Option (Nat × Bool)}

theorem extract_tail (x : Value) (l : List Value) : (#[x] ++ l.toArray : Array Value).extract 1 (#[x] ++ l.toArray : Array Value).size = l.toArray := by
  apply Array.ext'
  simp

theorem mth_enter (h : Rel P R m w) (hρ : Opd R m.nxt ρ σ) {c : Call} {f : Operand} (hc : c.callee = .value f) {name : String} {t : TypeId} {y : SV} (hf : ρ f = some (.mth name t y)) {g' : FuncId} {args : List SV} {m' : Mem} (hs : opS P (.call c) ρ m = .enter g' args m') :
    (execOp σ ⟨dst, .call c, ty, pos, aft, grd⟩).run P w = (callFunc g' (args.map (den R)).toArray).run P w ∧ m' = m ∧ ∀ v ∈ args, v.bel m.nxt := by
  simp only [opS, hc, hf, w1] at hs
  obtain ⟨l, e2, hs⟩ := wl_of hs (fun e => by cases e)
  obtain ⟨k1, k2⟩ := hρ _ _ hf
  obtain ⟨a1, a2⟩ := oall_ok hρ e2
  simp only [callV] at hs
  cases hm : methodS P t name y m with
  | none => simp only [hm] at hs; cases hs
  | some q =>
    simp only [hm, Nx.enter.injEq] at hs
    obtain ⟨rfl, rfl, rfl⟩ := hs
    have hd : P.types.size + Made.depth = (P.types.size + Made.depth - 1) + 1 := by
      have : 0 < Made.depth := by decide
      omega
    have k3 : y.bel m.nxt := k2
    obtain ⟨m1, m2⟩ := method_ok h k3 hm (P.types.size + Made.depth - 1)
    rw [← hd] at m1
    refine ⟨?_, rfl, fun v hv => ?_⟩
    · have ea := map_arr a1
      have e0 : (#[Value.iface t (den R y)] ++ (l.map (den R)).toArray : Array Value)[0]? = some (.iface t (den R y)) := by simp
      simp only [execOp, resolve, hc, k1, den, ea, Sem.run_bind, Sem.run_pure, Result.andThen_ok, Deferred.ofValue, invoke, e0, extract_tail, callMethod, run_program, m1]
      simp
    · rcases List.mem_cons.1 hv with rfl | hv
      · exact m2
      · exact a2 v hv

theorem via_enter (h : Rel P R m w) (hρ : Opd R m.nxt ρ σ) {c : Call} {f : Operand} (hc : c.callee = .value f) {t : TypeId} {path : List FieldStep} {g : FuncId} {pr : Bool} {x : SV} (hf : ρ f = some (.via t path g pr x)) {g' : FuncId} {args : List SV} {m' : Mem} (hs : opS P (.call c) ρ m = .enter g' args m') :
    (execOp σ ⟨dst, .call c, ty, pos, aft, grd⟩).run P w = (callFunc g' (args.map (den R)).toArray).run P w ∧ m' = m ∧ ∀ v ∈ args, v.bel m.nxt := by
  simp only [opS, hc, hf, w1] at hs
  obtain ⟨l, e2, hs⟩ := wl_of hs (fun e => by cases e)
  obtain ⟨k1, k2⟩ := hρ _ _ hf
  obtain ⟨a1, a2⟩ := oall_ok hρ e2
  simp only [callV] at hs
  cases hp : followS P m path t (.inl x) with
  | none => simp only [hp] at hs; cases hs
  | some q =>
    simp only [hp] at hs
    cases hr : recvS P m pr q with
    | none => simp only [hr] at hs; cases hs
    | some r =>
      simp only [hr, Nx.enter.injEq] at hs
      obtain ⟨rfl, rfl, rfl⟩ := hs
      have k3 : x.bel m.nxt := k2
      obtain ⟨j1, j2⟩ := follow_ok h path t (.inl x) q k3 hp
      obtain ⟨r1, r2⟩ := recv_ok h j2 hr none
      refine ⟨?_, rfl, fun v hv => ?_⟩
      · have ea := map_arr a1
        have e0 : (#[den R x] ++ (l.map (den R)).toArray : Array Value)[0]? = some (den R x) := by simp
        have j1 : (follow path t (.val (den R x))).run P w = .ok (q.1, plD R q.2) w := j1
        simp only [execOp, resolve, hc, k1, den, ea, Sem.run_bind, Sem.run_pure, Result.andThen_ok, Deferred.ofValue, invoke, e0, extract_tail, receiverVia, j1, r1]
        simp
      · rcases List.mem_cons.1 hv with rfl | hv
        · exact r2
        · exact a2 v hv
end Go.Ev
namespace Go.Ev
variable {P : Program} {R : Rho} {m : Mem} {w : World} {ρ : Operand → Option SV} {σ : Operand → Value} {dst : Option Tmp} {ty : TypeId} {pos : String} {aft : Array Edge} {grd : Option (Nat × Bool)}

theorem vOf_ent {o : Option SV} {g : FuncId} {a : List SV} {m' : Mem} : vOf m o ≠ .enter g a m' := by cases o <;> exact fun h => by cases h
theorem vmOf_ent {o : Option (SV × Mem)} {g : FuncId} {a : List SV} {m' : Mem} : vmOf o ≠ .enter g a m' := by cases o <;> exact fun h => by cases h
theorem mOf_ent {o : Option Mem} {g : FuncId} {a : List SV} {m' : Mem} : mOf o ≠ .enter g a m' := by cases o <;> exact fun h => by cases h
theorem builtin_ent {b : Builtin} {ts : List TypeId} {args a : List SV} {g : FuncId} {m' : Mem} : builtinS P b ts args m ≠ .enter g a m' := by
  intro h
  cases b <;> simp only [builtinS] at h <;> first
    | (cases h; done)
    | skip
  all_goals (split at h <;> first
    | (exact vOf_ent h)
    | (exact vmOf_ent h)
    | (exact mOf_ent h)
    | (cases h; done)
    | skip)
  · split at h <;> first
      | (exact vmOf_ent h)
      | (cases h; done)
  all_goals (rename_i k x j y; cases hk : beqK k j <;> simp only [hk, cond_true, cond_false] at h <;> cases h)

theorem call_enter (h : Rel P R m w) (hρ : Opd R m.nxt ρ σ) {c : Call} {g : FuncId} {args : List SV} {m' : Mem} (hs : opS P (.call c) ρ m = .enter g args m') :
    (execOp σ ⟨dst, .call c, ty, pos, aft, grd⟩).run P w = (callFunc g (args.map (den R)).toArray).run P w ∧ m' = m ∧ ∀ v ∈ args, v.bel m.nxt := by
  cases hc : c.callee with
  | builtin b =>
    simp only [opS, hc] at hs
    obtain ⟨l, e2, hs⟩ := wl_of hs (fun e => by cases e)
    exact absurd hs builtin_ent
  | invoke r name => exact invoke_enter h hρ hc hs
  | value f =>
    have hs0 := hs
    simp only [opS, hc] at hs
    obtain ⟨u, e1, hs⟩ := w1_of hs (fun e => by cases e)
    obtain ⟨l, e2, hs⟩ := wl_of hs (fun e => by cases e)
    cases u with
    | fn f' fs cap => exact value_enter hρ hc e1 hs0
    | mth name t y => exact mth_enter h hρ hc e1 hs0
    | via t path f' pr x => exact via_enter h hρ hc e1 hs0
    | tag t => cases t <;> cases hs
    | _ => cases hs

theorem panic_law (hρ : Opd R m.nxt ρ σ) {x : Operand} {v : SV} {m' : Mem} (hs : opS P (.panic x) ρ m = .panic v m') :
    m' = m ∧ v.bel m.nxt ∧ (∃ t y, v = .ifc t y) ∧ (execOp σ ⟨dst, .panic x, ty, pos, aft, grd⟩).run P w = (do pure (.value (← Instr.panic (den R v))) : Sem Next).run P w := by
  obtain ⟨u, e1, hs⟩ := w1_of hs (fun e => by cases e)
  obtain ⟨k1, k2⟩ := hρ _ _ e1
  obtain ⟨t, y, rfl⟩ : ∃ t y, u = .ifc t y := by
    cases u <;> first | exact ⟨_, _, rfl⟩ | (cases hs; done)
  simp only [Nx.panic.injEq] at hs
  obtain ⟨rfl, rfl⟩ := hs
  refine ⟨rfl, k2, ⟨t, y, rfl⟩, ?_⟩
  simp only [execOp, k1]

theorem defer_law (hρ : Opd R m.nxt ρ σ) {c : Call} {d : ADf} (hs : opS P (.defer c) ρ m = .defer d) :
    (∀ v ∈ d.args, v.bel m.nxt) ∧ ∃ cap args, (execOp σ ⟨dst, .defer c, ty, pos, aft, grd⟩).run P w = .ok (.defer { target := .fn (.func d.fn) cap, args := args }) w ∧ args ++ cap = (d.args.map (den R)).toArray := by
  simp only [opS] at hs
  cases hc : c.callee with
  | value f =>
    simp only [hc] at hs
    obtain ⟨u, e1, hs⟩ := w1_of hs (fun e => by cases e)
    obtain ⟨l, e2, hs⟩ := wl_of hs (fun e => by cases e)
    obtain ⟨k1, k2⟩ := hρ _ _ e1
    obtain ⟨a1, a2⟩ := oall_ok hρ e2
    cases u with
    | fn g fs cap =>
      simp only [Nx.defer.injEq] at hs
      subst hs
      refine ⟨fun v hv => ?_, (denL R cap).toArray, (denL R fs).toArray ++ (l.map (den R)).toArray, ?_, ?_⟩
      · rcases List.mem_append.1 hv with hv | hv
        · rcases List.mem_append.1 hv with hv | hv
          · exact toL_bel fs k2.1 v hv
          · exact a2 v hv
        · exact toL_bel cap k2.2 v hv
      · have ea := map_arr a1
        simp only [execOp, resolve, hc, k1, den, ea, Sem.run_bind, Sem.run_pure, Result.andThen_ok, Deferred.ofValue]
      · simp [denL_toL]
    | _ => cases hs
  | _ => simp only [hc] at hs; cases hs
end Go.Ev
namespace Go.Ev
variable {P : Program} {R : Rho} {m : Mem} {w : World} {ρ : Operand → Option SV} {σ : Operand → Value} {dst : Option Tmp} {ty : TypeId} {pos : String} {aft : Array Edge} {grd : Option (Nat × Bool)}

theorem resolve_builtin {c : Call} {b : Builtin} (hc : c.callee = .builtin b) {l : List Value} (ha : c.args.map σ = l.toArray) :
    ∃ consts, (execOp σ ⟨dst, .call c, ty, pos, aft, grd⟩).run P w = (builtin b c.argTypes ty consts l.toArray).run P w :=
  ⟨_, by simp only [execOp, resolve, hc, ha, Sem.run_bind, Sem.run_pure, Result.andThen_ok, invoke]; rfl⟩

theorem call_val (h : Rel P R m w) (hρ : Opd R m.nxt ρ σ) {c : Call} {v : SV} {m' : Mem} (hs : opS P (.call c) ρ m = .val v m') :
    NxVal P R m w (execOp σ ⟨dst, .call c, ty, pos, aft, grd⟩) v m' := by
  cases hc : c.callee with
  | builtin b =>
    simp only [opS, hc] at hs
    obtain ⟨l, e2, hs⟩ := wl_of hs (fun e => by cases e)
    obtain ⟨a1, a2⟩ := oall_ok hρ e2
    obtain ⟨consts, hr⟩ := resolve_builtin (P := P) (w := w) (σ := σ) (dst := dst) (ty := ty) (pos := pos) (aft := aft) (grd := grd) hc (map_arr a1)
    obtain ⟨R', w', k1, k2, k3⟩ := builtin_ok h (ts := c.argTypes) a2 hs ty consts
    exact ⟨R', w', by rw [hr]; exact k1, k2, k3⟩
  | invoke r name =>
    simp only [opS, hc] at hs
    obtain ⟨u, e1, hs⟩ := w1_of hs (fun e => by cases e)
    obtain ⟨l, e2, hs⟩ := wl_of hs (fun e => by cases e)
    cases u with
    | ifc t y =>
      simp only at hs
      cases hm : methodS P t name y m <;> simp only [hm] at hs <;> cases hs
    | _ => cases hs
  | value f =>
    simp only [opS, hc] at hs
    obtain ⟨u, e1, hs⟩ := w1_of hs (fun e => by cases e)
    obtain ⟨l, e2, hs⟩ := wl_of hs (fun e => by cases e)
    cases u with
    | mth name t y =>
      simp only [callV] at hs
      cases hm : methodS P t name y m <;> simp only [hm] at hs <;> cases hs
    | via t path f' pr x =>
      simp only [callV] at hs
      cases hp : followS P m path t (.inl x) with
      | none => simp only [hp] at hs; cases hs
      | some q =>
        simp only [hp] at hs
        cases hr : recvS P m pr q <;> simp only [hr] at hs <;> cases hs
    | tag t => cases t <;> cases hs
    | _ => cases hs

theorem op_val (h : Rel P R m w) (hρ : Opd R m.nxt ρ σ) {o : Oper} {v : SV} {m' : Mem} (hs : opS P o.op ρ m = .val v m') : NxVal P R m w (execOp σ o) v m' := by
  by_cases hc : ∃ c, o.op = .call c
  · obtain ⟨c, hc⟩ := hc
    obtain ⟨dst, op, ty, pos, aft, grd⟩ := o
    simp only at hc
    subst hc
    exact call_val h hρ hs
  · exact op_ok h hρ (fun c e => hc ⟨c, e⟩) hs

theorem vOf_round {o : Option SV} {g : Nat} {a : List SV} {m' : Mem} : vOf m o ≠ .round g a m' := by cases o <;> exact fun h => by cases h
theorem vmOf_round {o : Option (SV × Mem)} {g : Nat} {a : List SV} {m' : Mem} : vmOf o ≠ .round g a m' := by cases o <;> exact fun h => by cases h
theorem mOf_round {o : Option Mem} {g : Nat} {a : List SV} {m' : Mem} : mOf o ≠ .round g a m' := by cases o <;> exact fun h => by cases h
theorem builtin_round {b : Builtin} {ts : List TypeId} {args a : List SV} {g : Nat} {m' : Mem} : builtinS P b ts args m ≠ .round g a m' := by
  intro h
  cases b <;> simp only [builtinS] at h <;> first
    | (cases h; done)
    | skip
  all_goals (split at h <;> first
    | (exact vOf_round h)
    | (exact vmOf_round h)
    | (exact mOf_round h)
    | (cases h; done)
    | skip)
  · split at h <;> first
      | (exact vmOf_round h)
      | (cases h; done)
  all_goals (rename_i k x j y; cases hk : beqK k j <;> simp only [hk, cond_true, cond_false] at h <;> cases h)
theorem builtin_recover {b : Builtin} {ts : List TypeId} {args : List SV} (h : builtinS P b ts args m = .recover) : b = .recover := by
  cases b <;> first
    | rfl
    | (simp only [builtinS] at h; cases h; done)
    | skip
  all_goals simp only [builtinS] at h
  all_goals (split at h <;> first
    | (exact absurd h vOf_rec)
    | (exact absurd h vmOf_rec)
    | (exact absurd h mOf_rec)
    | (cases h; done)
    | skip)
  · split at h <;> first
      | (exact absurd h vmOf_rec)
      | (cases h; done)
  all_goals (rename_i k x j y; cases hk : beqK k j <;> simp only [hk, cond_true, cond_false] at h <;> cases h)

theorem call_round (hρ : Opd R m.nxt ρ σ) {c : Call} {l : Nat} {args : List SV} {m' : Mem} (hs : opS P (.call c) ρ m = .round l args m') :
    m' = m ∧ l < m.nxt ∧ (∀ v ∈ args, v.bel m.nxt) ∧ (execOp σ ⟨dst, .call c, ty, pos, aft, grd⟩).run P w = (Instr.yield (R.b l) (args.map (den R)).toArray).run P w := by
  cases hc : c.callee with
  | builtin b =>
    simp only [opS, hc] at hs
    obtain ⟨a, e2, hs⟩ := wl_of hs (fun e => by cases e)
    exact absurd hs builtin_round
  | invoke r name =>
    simp only [opS, hc] at hs
    obtain ⟨u, e1, hs⟩ := w1_of hs (fun e => by cases e)
    obtain ⟨a, e2, hs⟩ := wl_of hs (fun e => by cases e)
    cases u with
    | ifc t y =>
      simp only at hs
      cases hm : methodS P t name y m <;> simp only [hm] at hs <;> cases hs
    | _ => cases hs
  | value f =>
    simp only [opS, hc] at hs
    obtain ⟨u, e1, hs⟩ := w1_of hs (fun e => by cases e)
    obtain ⟨a, e2, hs⟩ := wl_of hs (fun e => by cases e)
    obtain ⟨k1, k2⟩ := hρ _ _ e1
    obtain ⟨a1, a2⟩ := oall_ok hρ e2
    cases u with
    | mth name t y =>
      simp only [callV] at hs
      cases hm : methodS P t name y m <;> simp only [hm] at hs <;> cases hs
    | via t path f' pr x =>
      simp only [callV] at hs
      cases hp : followS P m path t (.inl x) with
      | none => simp only [hp] at hs; cases hs
      | some q =>
        simp only [hp] at hs
        cases hr : recvS P m pr q <;> simp only [hr] at hs <;> cases hs
    | tag t =>
      cases t with
      | yld l' =>
        simp only [callV, Nx.round.injEq] at hs
        obtain ⟨rfl, rfl, rfl⟩ := hs
        have ea := map_arr a1
        refine ⟨rfl, k2, a2, ?_⟩
        simp only [execOp, resolve, hc, k1, den, ea, Sem.run_bind, Sem.run_pure, Result.andThen_ok, Deferred.ofValue, invoke]
        simp
      | _ => cases hs
    | _ => cases hs

theorem call_recover (hρ : Opd R m.nxt ρ σ) {c : Call} (hs : opS P (.call c) ρ m = .recover) : (execOp σ ⟨dst, .call c, ty, pos, aft, grd⟩).run P w = .ok .recover w := by
  cases hc : c.callee with
  | builtin b =>
    simp only [opS, hc] at hs
    obtain ⟨a, e2, hs⟩ := wl_of hs (fun e => by cases e)
    have := builtin_recover hs
    subst this
    obtain ⟨a1, a2⟩ := oall_ok hρ e2
    obtain ⟨consts, hr⟩ := resolve_builtin (P := P) (w := w) (σ := σ) (dst := dst) (ty := ty) (pos := pos) (aft := aft) (grd := grd) hc (map_arr a1)
    rw [hr]
    rfl
  | invoke r name =>
    simp only [opS, hc] at hs
    obtain ⟨u, e1, hs⟩ := w1_of hs (fun e => by cases e)
    obtain ⟨a, e2, hs⟩ := wl_of hs (fun e => by cases e)
    cases u with
    | ifc t y =>
      simp only at hs
      cases hm : methodS P t name y m <;> simp only [hm] at hs <;> cases hs
    | _ => cases hs
  | value f =>
    simp only [opS, hc] at hs
    obtain ⟨u, e1, hs⟩ := w1_of hs (fun e => by cases e)
    obtain ⟨a, e2, hs⟩ := wl_of hs (fun e => by cases e)
    cases u with
    | mth name t y =>
      simp only [callV] at hs
      cases hm : methodS P t name y m <;> simp only [hm] at hs <;> cases hs
    | via t path f' pr x =>
      simp only [callV] at hs
      cases hp : followS P m path t (.inl x) with
      | none => simp only [hp] at hs; cases hs
      | some q =>
        simp only [hp] at hs
        cases hr : recvS P m pr q <;> simp only [hr] at hs <;> cases hs
    | tag t => cases t <;> cases hs
    | _ => cases hs

/-- A function with a body, called. -/
theorem callFunc_body {f : FuncId} {fn : Func} (hf : P.funcs[f]? = some fn) (hb : fn.body.isNone = false) (hn : (fn.name == "runtime.NumGoroutine") = false) (args : Array Value) (w : World) : (callFunc f args).run P w = .ok (.enter f args) w := by
  simp only [callFunc, Sem.run_bind, run_program, Result.andThen_ok, hf, hn, hb, Bool.false_eq_true, if_false, Sem.run_pure]
end Go.Ev
namespace Go.Ev
variable {P : Program} {R : Rho} {m : Mem} {w : World}

/-- The frame's slots are what the abstract ones say. -/
def envOK (R : Rho) (N M : Nat) (e : Env) (tm : Array Value) : Prop := envRel R N e tm ∧ ∀ t, t < N → (e.get t).bel M

theorem opd_ok (h : Rel P R m w) {N : Nat} {e : Env} {a : Act} (he : envOK R N m.nxt e a.tmps) : Opd R m.nxt (fun x => opd P N x e) a.eval := by
  intro x v hv
  cases x with
  | tmp t =>
    simp only [opd] at hv
    cases ht : Nat.blt t N with
    | false => simp only [ht, cond_false] at hv; cases hv
    | true =>
      simp only [ht, cond_true, Option.some.injEq] at hv
      subst hv
      simp only [Nat.blt_eq] at ht
      exact ⟨he.1.2.2 t ht, he.2 t ht⟩
  | const c =>
    obtain ⟨k1, k2⟩ := ofV_den R c hv
    exact ⟨k1.symm, SV.bel_mono (Nat.zero_le _) _ k2⟩
  | global g =>
    simp only [opd] at hv
    cases ht : Nat.blt g P.globals.size with
    | false => simp only [ht, cond_false] at hv; cases hv
    | true =>
      simp only [ht, cond_true, Option.some.injEq] at hv
      subst hv
      simp only [Nat.blt_eq] at ht
      have := h.gl
      refine ⟨?_, show g < m.nxt by omega⟩
      show Value.pointer (some ⟨g, 0, none⟩) = _
      simp only [den, h.glob g ht]
  | func f =>
    simp only [opd, Option.some.injEq] at hv
    subst hv
    exact ⟨rfl, trivial, trivial⟩

theorem envOK.ext {R' : Rho} {N M M' : Nat} {e : Env} {tm : Array Value} (h : envOK R N M e tm) (he : R.ext R' M) (hM : M ≤ M') : envOK R' N M' e tm :=
  ⟨h.1.ext he h.2, fun t ht => SV.bel_mono hM _ (h.2 t ht)⟩

theorem putD_ok {N M : Nat} {e e' : Env} {a : Act} {d : Option Tmp} {v : SV} (h : envOK R N M e a.tmps) (hv : v.bel M) (hp : putD N d v e = some e') : envOK R N M e' (a.put d (den R v)).tmps := by
  cases d with
  | none =>
    simp only [putD, Option.some.injEq] at hp
    subst hp
    exact h
  | some t =>
    simp only [putD] at hp
    cases ht : Nat.blt t N with
    | false => simp only [ht, cond_false] at hp; cases hp
    | true =>
      simp only [ht, cond_true, Option.some.injEq] at hp
      subst hp
      simp only [Nat.blt_eq] at ht
      obtain ⟨⟨h1, h2, h3⟩, h4⟩ := h
      have hs : (a.put (some t) (den R v)).tmps = a.tmps.setIfInBounds t (den R v) := rfl
      rw [hs]
      refine ⟨⟨by simp [h1], h2, fun u hu => ?_⟩, fun u hu => ?_⟩
      · rw [Env.get_set e v (by omega) (by omega)]
        by_cases htu : t = u
        · subst htu
          rw [if_pos rfl]
          simp [h1, ht]
        · rw [if_neg htu, ← h3 u hu]
          simp [Array.getElem?_setIfInBounds, htu]
      · rw [Env.get_set e v (by omega) (by omega)]
        by_cases htu : t = u
        · rw [if_pos htu]; exact hv
        · rw [if_neg htu]; exact h4 u hu

theorem guardS_ok {N M : Nat} {e : Env} {tm : Array Value} (h : envOK R N M e tm) (ops : Array Oper) (o : Oper) : guardS N ops o e = Region.wanted o (yielded ops tm) := by
  obtain ⟨⟨h1, h2, h3⟩, _⟩ := h
  unfold guardS Region.wanted
  cases hg : o.guard with
  | none => rfl
  | some g =>
    obtain ⟨j, b⟩ := g
    simp only
    unfold yielded
    cases hd : (ops[j]?).bind (·.dst) with
    | none => simp
    | some t =>
      simp only [Option.bind_some]
      cases ht : Nat.blt t N with
      | false =>
        have hn : ¬ t < N := fun hh => by rw [blt_t hh] at ht; cases ht
        rw [cond_false, Array.getElem?_eq_none (show tm.size ≤ t by rw [h1]; exact Nat.le_of_not_lt hn)]
        simp
      | true =>
        have hn : t < N := by simpa using ht
        have h9 := h3 t hn
        rw [Array.getD_eq_getD_getElem?] at h9
        have hsome : tm[t]? = some (den R (e.get t)) := by
          have hl : t < tm.size := by rw [h1]; exact hn
          rw [Array.getElem?_eq_getElem hl] at h9 ⊢
          simpa using h9
        rw [hsome, cond_true]
        generalize e.get t = v
        cases v <;> first
          | (simp only [den]; rename_i c; cases c <;> cases b <;> rfl)
          | (simp only [den, undef]; simp; done)
          | skip
end Go.Ev
namespace Go.Ev
variable {P : Program} {R : Rho} {m : Mem} {w : World} {ρ : Operand → Option SV} {σ : Operand → Value}

/-- A value, or nothing. -/
def Nx.plain : Nx → Bool
  | .val .. => true
  | .bad => true
  | _ => false
theorem vOf_plain (m : Mem) (o : Option SV) : (vOf m o).plain = true := by cases o <;> rfl
theorem vmOf_plain (o : Option (SV × Mem)) : (vmOf o).plain = true := by cases o <;> rfl
theorem mOf_plain (o : Option Mem) : (mOf o).plain = true := by cases o <;> rfl
theorem w1_plain {o : Option SV} {f : SV → Nx} (h : ∀ v, (f v).plain = true) : (w1 o f).plain = true := by cases o <;> first | rfl | exact h _
theorem wl_plain {o : Option (List SV)} {f : List SV → Nx} (h : ∀ v, (f v).plain = true) : (wl o f).plain = true := by cases o <;> first | rfl | exact h _
theorem cond_plain {b : Bool} {x y : Nx} (hx : x.plain = true) (hy : y.plain = true) : (cond b x y).plain = true := by cases b <;> assumption

def opEnters (op : Op) : Bool := match op with
  | .call _ | .defer _ | .panic _ => true
  | _ => false
theorem op_plain (op : Op) (h : opEnters op = false) : (opS P op ρ m).plain = true := by
  cases op <;> first
    | (simp [opEnters] at h; done)
    | (clear h; simp only [opS]; repeat' (first
        | rfl
        | exact vOf_plain _ _
        | exact vmOf_plain _
        | exact mOf_plain _
        | (refine w1_plain fun v => ?_)
        | (refine wl_plain fun v => ?_)
        | (refine cond_plain ?_ ?_)
        | split))

theorem op_enter {o : Op} {g : FuncId} {a : List SV} {m' : Mem} (h : opS P o ρ m = .enter g a m') : ∃ c, o = .call c := by
  have hp := op_plain (P := P) (ρ := ρ) (m := m) o
  cases o <;> first
    | exact ⟨_, rfl⟩
    | (have := hp rfl; rw [h] at this; cases this; done)
    | skip
  · exfalso
    simp only [opS] at h
    split at h <;> first | (cases h; done) | skip
    obtain ⟨u, e1, h⟩ := w1_of h (fun e => by cases e)
    obtain ⟨l, e2, h⟩ := wl_of h (fun e => by cases e)
    cases u <;> cases h
  · exfalso
    simp only [opS] at h
    obtain ⟨u, e1, h⟩ := w1_of h (fun e => by cases e)
    cases u <;> cases h
theorem op_round {o : Op} {g : Nat} {a : List SV} {m' : Mem} (h : opS P o ρ m = .round g a m') : ∃ c, o = .call c := by
  have hp := op_plain (P := P) (ρ := ρ) (m := m) o
  cases o <;> first
    | exact ⟨_, rfl⟩
    | (have := hp rfl; rw [h] at this; cases this; done)
    | skip
  · exfalso
    simp only [opS] at h
    split at h <;> first | (cases h; done) | skip
    obtain ⟨u, e1, h⟩ := w1_of h (fun e => by cases e)
    obtain ⟨l, e2, h⟩ := wl_of h (fun e => by cases e)
    cases u <;> cases h
  · exfalso
    simp only [opS] at h
    obtain ⟨u, e1, h⟩ := w1_of h (fun e => by cases e)
    cases u <;> cases h
theorem op_recover {o : Op} (h : opS P o ρ m = .recover) : ∃ c, o = .call c := by
  have hp := op_plain (P := P) (ρ := ρ) (m := m) o
  cases o <;> first
    | exact ⟨_, rfl⟩
    | (have := hp rfl; rw [h] at this; cases this; done)
    | skip
  · exfalso
    simp only [opS] at h
    split at h <;> first | (cases h; done) | skip
    obtain ⟨u, e1, h⟩ := w1_of h (fun e => by cases e)
    obtain ⟨l, e2, h⟩ := wl_of h (fun e => by cases e)
    cases u <;> cases h
  · exfalso
    simp only [opS] at h
    obtain ⟨u, e1, h⟩ := w1_of h (fun e => by cases e)
    cases u <;> cases h
theorem call_plain {c : Call} : (∀ d, opS P (.call c) ρ m ≠ .defer d) ∧ ∀ v m', opS P (.call c) ρ m ≠ .panic v m' := by
  refine ⟨fun d h => ?_, fun v m' h => ?_⟩
  all_goals
    cases hc : c.callee with
    | builtin b =>
      simp only [opS, hc] at h
      obtain ⟨l, e2, h⟩ := wl_of h (fun e => by cases e)
      cases b <;> simp only [builtinS] at h <;> first
        | (cases h; done)
        | skip
      all_goals (split at h <;> first
        | (cases h; done)
        | (exact absurd (vOf_plain _ _) (by rw [h]; simp [Nx.plain]))
        | (exact absurd (vmOf_plain _) (by rw [h]; simp [Nx.plain]))
        | (exact absurd (mOf_plain _) (by rw [h]; simp [Nx.plain]))
        | skip)
      · split at h <;> first
          | (exact absurd (vmOf_plain _) (by rw [h]; simp [Nx.plain]))
          | (cases h; done)
      all_goals (rename_i k x j y; cases hk : beqK k j <;> simp only [hk, cond_true, cond_false] at h <;> cases h)
    | invoke r name =>
      simp only [opS, hc] at h
      obtain ⟨u, e1, h⟩ := w1_of h (fun e => by cases e)
      obtain ⟨l, e2, h⟩ := wl_of h (fun e => by cases e)
      cases u with
      | ifc t y =>
        simp only at h
        cases hm : methodS P t name y m <;> simp only [hm] at h <;> cases h
      | _ => cases h
    | value f =>
      simp only [opS, hc] at h
      obtain ⟨u, e1, h⟩ := w1_of h (fun e => by cases e)
      obtain ⟨l, e2, h⟩ := wl_of h (fun e => by cases e)
      cases u with
      | mth name t y =>
        simp only [callV] at h
        cases hm : methodS P t name y m <;> simp only [hm] at h <;> cases h
      | via t path f' pr x =>
        simp only [callV] at h
        cases hp : followS P m path t (.inl x) with
        | none => simp only [hp] at h; cases h
        | some q =>
          simp only [hp] at h
          cases hr : recvS P m pr q <;> simp only [hr] at h <;> cases h
      | tag t => cases t <;> cases h
      | _ => cases h
theorem op_defer {o : Op} {d : ADf} (h : opS P o ρ m = .defer d) : ∃ c, o = .defer c := by
  have hp := op_plain (P := P) (ρ := ρ) (m := m) o
  cases o <;> first
    | exact ⟨_, rfl⟩
    | (have := hp rfl; rw [h] at this; cases this; done)
    | exact absurd h (call_plain.1 _)
    | skip
  · exfalso
    simp only [opS] at h
    obtain ⟨u, e1, h⟩ := w1_of h (fun e => by cases e)
    cases u <;> cases h
theorem op_panic {o : Op} {v : SV} {m' : Mem} (h : opS P o ρ m = .panic v m') : ∃ x, o = .panic x := by
  have hp := op_plain (P := P) (ρ := ρ) (m := m) o
  cases o <;> first
    | exact ⟨_, rfl⟩
    | (have := hp rfl; rw [h] at this; cases this; done)
    | exact absurd h (call_plain.2 _ _)
    | skip
  · exfalso
    simp only [opS] at h
    split at h <;> first | (cases h; done) | skip
    obtain ⟨u, e1, h⟩ := w1_of h (fun e => by cases e)
    obtain ⟨l, e2, h⟩ := wl_of h (fun e => by cases e)
    cases u <;> cases h

theorem panic_run {c : Value} {t : TypeId} {y : Value} (w : World) (hc : c = .iface t y) : (do pure (.value (← Instr.panic c)) : Sem Next).run P w = .halt (.panic c) w := by
  subst hc
  rfl
end Go.Ev
namespace Go.Ev
variable {P : Program} {R : Rho} {m : Mem} {w : World}

/-! ### What is asked -/
def chD (R : Rho) (ch : List (SV × Bool)) : List PanicEntry := ch.map fun q => { v := den R q.1, recovered := q.2 }
def chBel (N : Nat) (ch : List (SV × Bool)) : Prop := ∀ q ∈ ch, q.1.bel N
def endRel (R : Rho) (N : Nat) : AEnd → Ending → Prop
  | .ret v, e => e = .returned (den R v) ∧ v.bel N
  | .pan ch, e => e = .panicked (chD R ch) ∧ chBel N ch
def EndOK (P : Program) (R : Rho) (m : Mem) (w : World) (e : AEnd) (m' : Mem) (e' : Ending) (w' : World) : Prop :=
  ∃ R', Post P R m w R' m' w' ∧ endRel R' m'.nxt e e'
/-- What a call comes to, by what its operation says. -/
def CallRes (P : Program) (r : Result Next) (K : Ending → World → Prop) : Prop := match r with
  | .ok (.value v) w' => K (.returned v) w'
  | .ok (.enter f args) w' => CallsIn Fence.wide 0 P f args w' K
  | .ok (.row row args) w' => RowsIn Fence.wide 0 P row args w' fun v w'' => K (.returned v) w''
  | _ => False
def CallOK (P : Program) (E : EvF) : Prop := ∀ f args m e m', E.call f args m = some (e, m') → ∀ R w, Rel P R m w → (∀ v ∈ args, v.bel m.nxt) →
  CallRes P ((callFunc f (args.map (den R)).toArray).run P w) (EndOK P R m w e m')
def RoundOK (P : Program) (E : EvF) : Prop := ∀ l args m v m', E.round l args m = some (v, m') → ∀ R w, Rel P R m w → l < m.nxt → (∀ v ∈ args, v.bel m.nxt) →
  ∃ f tmps asg body, (Instr.yield (R.b l) (args.map (den R)).toArray).run P w = .ok (.round (R.b l) f tmps asg body) w ∧
    RoundIn Fence.wide 0 P (R.b l) f tmps asg body w (EndOK P R m w (.ret v) m')

def dfRel (R : Rho) (N : Nat) : ADf ⊕ Nat → Deferred → Prop
  | .inl d, x => (∀ v ∈ d.args, v.bel N) ∧ ∃ cap args, x = { target := .fn (.func d.fn) cap, args := args } ∧ args ++ cap = (d.args.map (den R)).toArray
  | .inr n, x => n < N ∧ x = { target := .collected (R.b n), args := #[] }
def dfsRel (R : Rho) (N : Nat) : List (ADf ⊕ Nat) → List Deferred → Prop
  | [], k => k = []
  | x :: l, k => ∃ y k', k = y :: k' ∧ dfRel R N x y ∧ dfsRel R N l k'
def exRel (R : Rho) (N : Nat) : AEx → Exit → Prop
  | .normal, e => e = .normal
  | .exit id, e => e = .exit id
  | .ret, e => e = .ret
  | .pan ch, e => e = .panic (chD R ch) ∧ chBel N ch
/-- A frame at an abstract state. -/
structure At (P : Program) (R : Rho) (N : Nat) (s : St) (a : Act) (w : World) : Prop where
  rel : Rel P R s.mem w
  env : envOK R N s.mem.nxt s.env a.tmps
  dfs : dfsRel R s.mem.nxt s.dfs a.defers
def CodeOK (P : Program) (R : Rho) (m : Mem) (w : World) (N : Nat) (ex : AEx) (s' : St) (e : Exit) (a' : Act) (w' : World) : Prop :=
  ∃ R', Post P R m w R' s'.mem w' ∧ At P R' N s' a' w' ∧ exRel R' s'.mem.nxt ex e

/-! ### Kept -/
theorem map_den_bel {R' : Rho} {N : Nat} (he : R.ext R' N) {l : List SV} (h : ∀ v ∈ l, v.bel N) : l.map (den R') = l.map (den R) := map_den_ext he h
theorem dfRel.ext {R' : Rho} {N M : Nat} (he : R.ext R' N) (hM : N ≤ M) {x : ADf ⊕ Nat} {y : Deferred} (h : dfRel R N x y) : dfRel R' M x y := by
  cases x with
  | inl d =>
    obtain ⟨h1, cap, args, h2, h3⟩ := h
    exact ⟨fun v hv => SV.bel_mono hM _ (h1 v hv), cap, args, h2, by rw [map_den_ext he h1]; exact h3⟩
  | inr n =>
    obtain ⟨h1, h2⟩ := h
    exact ⟨Nat.lt_of_lt_of_le h1 hM, by rw [(he n h1).1]; exact h2⟩
theorem dfsRel.ext {R' : Rho} {N M : Nat} (he : R.ext R' N) (hM : N ≤ M) : ∀ {l : List (ADf ⊕ Nat)} {k : List Deferred}, dfsRel R N l k → dfsRel R' M l k
  | [], _, h => h
  | _ :: _, _, ⟨y, k', h1, h2, h3⟩ => ⟨y, k', h1, h2.ext he hM, h3.ext he hM⟩
theorem At.post {N : Nat} {s : St} {a : Act} (h : At P R N s a w) {R' : Rho} {m' : Mem} {w' : World} (hp : Post P R s.mem w R' m' w') : At P R' N ⟨s.env, s.dfs, m'⟩ a w' :=
  ⟨hp.rel, h.env.ext hp.ext hp.nxt, h.dfs.ext hp.ext hp.nxt⟩
theorem At.put {N : Nat} {s : St} {a : Act} (h : At P R N s a w) {d : Option Tmp} {v : SV} {e : Env} (hv : v.bel s.mem.nxt) (hp : putD N d v s.env = some e) : At P R N ⟨e, s.dfs, s.mem⟩ (a.put d (den R v)) w :=
  ⟨h.rel, putD_ok h.env hv hp, by cases d <;> exact h.dfs⟩
theorem CodeOK.after {N : Nat} {ex : AEx} {s' : St} {e : Exit} {a' : Act} {w' : World} {R1 : Rho} {m1 : Mem} {w1 : World}
    (hp : Post P R m w R1 m1 w1) (h : CodeOK P R1 m1 w1 N ex s' e a' w') : CodeOK P R m w N ex s' e a' w' :=
  let ⟨R', h1, h2, h3⟩ := h
  ⟨R', hp.trans h1, h2, h3⟩
theorem chD_ext {R' : Rho} {N : Nat} (he : R.ext R' N) {ch : List (SV × Bool)} (h : chBel N ch) : chD R' ch = chD R ch := by
  unfold chD
  exact List.map_congr_left fun q hq => by rw [den_ext he q.1 (h q hq)]

/-- The fence of a frame: of a function's, or of a round's. -/
def fnc (R : Rho) (r : Option Nat) : Fence := match r with
  | none => Fence.wide
  | some l => Fence.wide.inRound (R.b l)
theorem fnc_fn (R : Rho) (r : Option Nat) (f : FuncId) : (fnc R r).fn f := by cases r <;> exact trivial
theorem fnc_depth (R : Rho) (r : Option Nat) : (fnc R r).depth = none := by cases r <;> rfl
theorem fnc_round (R : Rho) (r : Option Nat) : (fnc R r).round = r.map R.b := by cases r <;> rfl
theorem fnc_calls (R : Rho) (r : Option Nat) {f : FuncId} {args : Array Value} {K : Ending → World → Prop} (h : CallsIn Fence.wide 0 P f args w K) : CallsIn (fnc R r) 0 P f args w K := by
  cases r <;> exact h
theorem fnc_rows (R : Rho) (r : Option Nat) {f : String} {args : Array Value} {K : Value → World → Prop} (h : RowsIn Fence.wide 0 P f args w K) : RowsIn (fnc R r) 0 P f args w K := by
  cases r <;> exact h
theorem fnc_rounds (R : Rho) (r : Option Nat) {l : Nat} {f : FuncId} {tmps : Array Value} {asg body : Code} {K : Ending → World → Prop} (h : RoundIn Fence.wide 0 P l f tmps asg body w K) : RoundIn (fnc R r) 0 P l f tmps asg body w K := by
  cases r <;> exact h
theorem fnc_about (R : Rho) (r : Option Nat) {o : Oper} {σ : Operand → Value} : ∀ f, o.about P w σ = some f → (fnc R r).fn f := fun f _ => fnc_fn R r f

/-- A call's result, as the operation's continuation. -/
theorem uponIn_call {F : Fence} (hd : F.depth = none) {o : Oper} {a : Act} {next : Act → World → Prop} {Q : Exit → Act → World → Prop} {r : Result Next} {K : Ending → World → Prop}
    (hF : ∀ f args w K, CallsIn Fence.wide 0 P f args w K → CallsIn F 0 P f args w K) (hRw : ∀ f args w K, RowsIn Fence.wide 0 P f args w K → RowsIn F 0 P f args w K)
    (h : CallRes P r K) (hv : ∀ v w', K (.returned v) w' → next (a.put o.dst v) w') (hc : ∀ ch w', K (.panicked ch) w' → Q (.panic ch) a w') (ho : ∀ w', ¬ K .outgrown w') : o.uponIn F 0 P a next Q r := by
  cases r with
  | halt x w' => exact h.elim
  | ok x w' =>
    cases x with
    | value v => exact hv v w' h
    | enter f args =>
      refine ⟨fun hh => (by rw [hd] at hh; cases hh), (hF _ _ _ _ h).mono fun e w'' he => ?_⟩
      cases e with
      | returned v => exact hv v w'' he
      | panicked ch => exact hc ch w'' he
      | outgrown => exact absurd he (ho w'')
    | row row args => exact ⟨fun hh => (by rw [hd] at hh; cases hh), (hRw _ _ _ _ h).mono fun v w'' he => hv v w'' he⟩
    | _ => exact h.elim

theorem CallRes.mono {r : Result Next} {K K' : Ending → World → Prop} (h : CallRes P r K) (hk : ∀ e w, K e w → K' e w) : CallRes P r K' := by
  cases r with
  | halt x w' => exact h.elim
  | ok x w' =>
    cases x with
    | value v => exact hk _ _ h
    | enter f args => exact CallsIn.mono h hk
    | row row args => exact RowsIn.mono h fun v w hh => hk _ _ hh
    | _ => exact h.elim

theorem EndOK.not_out {e : AEnd} {m' : Mem} {w' : World} : ¬ EndOK P R m w e m' .outgrown w' := by
  rintro ⟨R', _, h⟩
  cases e <;> exact absurd h.1 (by simp)

/-- One operation that the evaluator does, in any calculus of continuations: what is asked of the next one. -/
theorem oper_ok {E : EvF} (hC : CallOK P E) (hRd : RoundOK P E) {N : Nat} {ro : Option Nat} {R0 : Rho} {s : St} {a : Act} (hF : ro.map R0.b = ro.map R.b) (h : At P R N s a w)
    (o : Oper) {next : Act → World → Prop} {Q : Exit → Act → World → Prop}
    (hnx : ∀ (v : SV) (dfs : List (ADf ⊕ Nat)) (m' : Mem) (dv : Value) (dd : List Deferred) (R' : Rho) (w' : World), Post P R s.mem w R' m' w' → dv = den R' v → v.bel m'.nxt → dfsRel R' m'.nxt dfs dd →
      (match opS P o.op (fun x => opd P N x s.env) s.mem with
       | .val v' m'' => v' = v ∧ dfs = s.dfs ∧ m'' = m' ∧ dd = a.defers
       | .enter f args m => E.call f args m = some (.ret v, m') ∧ dfs = s.dfs ∧ dd = a.defers
       | .round lp args m => E.round lp args m = some (v, m') ∧ dfs = s.dfs ∧ dd = a.defers
       | .defer d => ro = none ∧ v = .und ∧ dfs = .inl d :: s.dfs ∧ m' = s.mem
       | _ => False) → next ({ a with defers := dd }.put o.dst dv) w')
    (hpn : ∀ (ch : List (SV × Bool)) (m' : Mem) (R' : Rho) (w' : World), Post P R s.mem w R' m' w' → chBel m'.nxt ch →
      (match opS P o.op (fun x => opd P N x s.env) s.mem with
       | .enter f args m => E.call f args m = some (.pan ch, m')
       | .panic v m => ch = [(v, false)] ∧ m' = m
       | _ => False) → Q (.panic (chD R' ch)) a w')
    (hok : match opS P o.op (fun x => opd P N x s.env) s.mem with
       | .val .. => True
       | .enter f args m => ∃ q, E.call f args m = some q
       | .round lp args m => ∃ q, E.round lp args m = some q
       | .defer _ => ro = none
       | .panic .. => True
       | _ => False) : o.wpIn (fnc R0 ro) 0 P a w next Q := by
  refine ⟨fnc_about R0 ro, ?_⟩
  have hρ := opd_ok h.rel h.env
  cases hs : opS P o.op (fun x => opd P N x s.env) s.mem with
  | bad => rw [hs] at hok; exact hok.elim
  | recover => rw [hs] at hok; exact hok.elim
  | val v m' =>
    rw [hs] at hnx
    have hnd : ∀ c, o.op ≠ .defer c := fun c hc => by
      rw [hc] at hs
      simp only [opS] at hs
      split at hs <;> first | (cases hs; done) | skip
      obtain ⟨u, e1, hs⟩ := w1_of hs (fun e => by cases e)
      obtain ⟨l, e2, hs⟩ := wl_of hs (fun e => by cases e)
      cases u <;> cases hs
    rw [Oper.semAt_eq _ _ _ hnd]
    obtain ⟨R', w', h1, h2, h3⟩ := op_val h.rel hρ hs
    have key : ∀ dv, dv = den R' v → next (a.put o.dst dv) w' := fun dv hdv =>
      hnx v s.dfs m' dv a.defers R' w' h2 hdv h3 (h.dfs.ext h2.ext h2.nxt) ⟨rfl, rfl, rfl, rfl⟩
    rcases h1 with h1 | ⟨h1, rfl⟩
    · rw [h1]; exact key _ rfl
    · rw [h1]; exact key undef (den_und R').symm
  | enter f args m' =>
    rw [hs] at hnx hpn hok
    obtain ⟨c, hc⟩ := op_enter hs
    rw [Oper.semAt_eq _ _ _ (fun c' hc' => by rw [hc] at hc'; cases hc')]
    obtain ⟨dst, op, ty, pos, aft, grd⟩ := o
    simp only at hc
    subst hc
    obtain ⟨k1, k2, k3⟩ := call_enter (dst := dst) (ty := ty) (pos := pos) (aft := aft) (grd := grd) h.rel hρ hs
    subst k2
    obtain ⟨⟨e, m1⟩, hE⟩ := hok
    rw [k1]
    refine uponIn_call (fnc_depth R0 ro) (fun f args w K hh => fnc_calls R0 ro hh) (fun f args w K hh => fnc_rows R0 ro hh) (hC _ _ _ _ _ hE R w h.rel k3) (fun v w' hv => ?_) (fun ch w' hv => ?_) (fun w' hv => EndOK.not_out hv)
    · obtain ⟨R', p1, p2⟩ := hv
      cases e with
      | pan ch => exact absurd p2.1 (by simp)
      | ret u =>
        obtain ⟨p2, p3⟩ := p2
        simp only [Ending.returned.injEq] at p2
        exact hnx u s.dfs m1 v a.defers R' w' p1 p2 p3 (h.dfs.ext p1.ext p1.nxt) ⟨hE, rfl, rfl⟩
    · obtain ⟨R', p1, p2⟩ := hv
      cases e with
      | ret u => exact absurd p2.1 (by simp)
      | pan ch' =>
        obtain ⟨p2, p3⟩ := p2
        simp only [Ending.panicked.injEq] at p2
        subst p2
        exact hpn ch' m1 R' w' p1 p3 hE
  | round l args m' =>
    rw [hs] at hnx hok
    obtain ⟨c, hc⟩ := op_round hs
    rw [Oper.semAt_eq _ _ _ (fun c' hc' => by rw [hc] at hc'; cases hc')]
    obtain ⟨dst, op, ty, pos, aft, grd⟩ := o
    simp only at hc
    subst hc
    obtain ⟨k1, k2, k3, k4⟩ := call_round (w := w) (dst := dst) (ty := ty) (pos := pos) (aft := aft) (grd := grd) hρ hs
    subst k1
    obtain ⟨⟨v, m1⟩, hE⟩ := hok
    obtain ⟨f, tmps, asg, body, j1, j2⟩ := hRd _ _ _ _ _ hE R w h.rel k2 k3
    rw [k4, j1]
    refine ⟨fun hh => (by rw [fnc_depth] at hh; cases hh), (fnc_rounds R0 ro j2).mono fun e w' he => ?_⟩
    obtain ⟨R', p1, p2, p3⟩ := he
    subst p2
    exact hnx v s.dfs m1 _ a.defers R' w' p1 rfl p3 (h.dfs.ext p1.ext p1.nxt) ⟨hE, rfl, rfl⟩
  | defer d =>
    rw [hs] at hnx hok
    subst hok
    obtain ⟨c, hc⟩ := op_defer hs
    obtain ⟨dst, op, ty, pos, aft, grd⟩ := o
    simp only at hc
    subst hc
    obtain ⟨k1, cap, args, k2, k3⟩ := defer_law (w := w) (dst := dst) (ty := ty) (pos := pos) (aft := aft) (grd := grd) hρ hs
    rw [fnc_round, Option.map_none, Oper.semAt_none, k2]
    exact hnx .und (.inl d :: s.dfs) s.mem undef _ R w (Post.refl h.rel) (den_und R).symm trivial ⟨_, _, rfl, ⟨k1, cap, args, rfl, k3⟩, h.dfs⟩ ⟨rfl, rfl, rfl, rfl⟩
  | panic v m' =>
    rw [hs] at hpn
    obtain ⟨x, hc⟩ := op_panic hs
    rw [Oper.semAt_eq _ _ _ (fun c' hc' => by rw [hc] at hc'; cases hc')]
    obtain ⟨dst, op, ty, pos, aft, grd⟩ := o
    simp only at hc
    subst hc
    obtain ⟨k1, k2, ⟨t, y, k3⟩, k4⟩ := panic_law (w := w) (dst := dst) (ty := ty) (pos := pos) (aft := aft) (grd := grd) hρ hs
    subst k1
    rw [k4, panic_run w (by rw [k3]; rfl)]
    exact hpn [(v, false)] s.mem R w (Post.refl h.rel) (fun q hq => by simp at hq; rw [hq]; exact k2) ⟨rfl, rfl⟩

/-- **The operations of a region, one behind the other.** -/
theorem opsS_ok {E : EvF} (hC : CallOK P E) (hRd : RoundOK P E) {N : Nat} {ro : Option Nat} {ops : Array Oper} {ex : AEx} {s' : St} {Q : Exit → Act → World → Prop} {R0 : Rho} :
    ∀ (l : List Oper) (R : Rho) (s : St) (a : Act) (w : World), ro.map R0.b = ro.map R.b → (∀ n, ro = some n → n < s.mem.nxt) → At P R N s a w → opsS P ops N ro.isSome E l s = some (ex, s') →
      (∀ e a' w', CodeOK P R s.mem w N ex s' e a' w' → Q e a' w') → wpListIn (fnc R0 ro) 0 P ops Q l a w := by
  intro l
  induction l with
  | nil =>
    intro R s a w hF hN h hs hQ
    simp only [opsS, Option.some.injEq, Prod.mk.injEq] at hs
    obtain ⟨rfl, rfl⟩ := hs
    exact wpListIn_nil (hQ _ _ _ ⟨R, Post.refl h.rel, h, rfl⟩)
  | cons o l ih =>
    intro R s a w hF hN h hs hQ
    simp only [opsS] at hs
    rw [guardS_ok h.env ops o] at hs
    refine wpListIn_step fun K hK => ?_
    -- what comes behind
    have hgo : ∀ (v : SV) (dfs : List (ADf ⊕ Nat)) (m' : Mem) (R' : Rho) (w' : World) (dv : Value) (dd : List Deferred), Post P R s.mem w R' m' w' → dv = den R' v → v.bel m'.nxt → dfsRel R' m'.nxt dfs dd →
        (match putD N o.dst v s.env with
          | some e => opsS P ops N ro.isSome E l ⟨e, dfs, m'⟩
          | none => none) = some (ex, s') → K ({ a with defers := dd }.put o.dst dv) w' := by
      intro v dfs m' R' w' dv dd hp hdv hv hdd hh
      cases hpd : putD N o.dst v s.env with
      | none => rw [hpd] at hh; cases hh
      | some e =>
        rw [hpd] at hh
        have h1 : At P R' N ⟨s.env, dfs, m'⟩ { a with defers := dd } w' := ⟨hp.rel, h.env.ext hp.ext hp.nxt, hdd⟩
        have h2 := h1.put (d := o.dst) (v := v) (e := e) hv hpd
        rw [hdv]
        refine hK _ _ (ih R' _ _ w' ?_ ?_ h2 hh fun e a' w'' hc => hQ _ _ _ (hc.after hp))
        · rw [hF]
          cases ro with
          | none => rfl
          | some n => simp only [Option.map_some, (hp.ext n (hN n rfl)).1]
        · exact fun n hn => Nat.lt_of_lt_of_le (hN n hn) hp.nxt
    cases hw : Region.wanted o (yielded ops a.tmps) with
    | false =>
      rw [hw, cond_false] at hs
      rw [if_neg (by simp)]
      refine ⟨fnc_about R0 ro, ?_⟩
      have := hgo .und s.dfs s.mem R w undef a.defers (Post.refl h.rel) (den_und R).symm trivial h.dfs hs
      exact this
    | true =>
      rw [hw, cond_true] at hs
      rw [if_pos rfl]
      refine oper_ok hC hRd hF h o (fun v dfs m' dv dd R' w' hp hdv hv hdd hm => ?_) (fun ch m' R' w' hp hch hm => ?_) ?_
      · refine hgo v dfs m' R' w' dv dd hp hdv hv hdd ?_
        cases hx : opS P o.op (fun x => opd P N x s.env) s.mem with
        | val v' m'' =>
          rw [hx] at hm hs
          obtain ⟨rfl, rfl, rfl, rfl⟩ := hm
          exact hs
        | enter f args m1 =>
          rw [hx] at hm hs
          obtain ⟨h1, rfl, rfl⟩ := hm
          simp only [h1] at hs
          exact hs
        | round lp args m1 =>
          rw [hx] at hm hs
          obtain ⟨h1, rfl, rfl⟩ := hm
          simp only [h1] at hs
          exact hs
        | defer d =>
          rw [hx] at hm hs
          obtain ⟨rfl, rfl, rfl, rfl⟩ := hm
          exact hs
        | bad => rw [hx] at hm; exact hm.elim
        | recover => rw [hx] at hm; exact hm.elim
        | panic v m => rw [hx] at hm; exact hm.elim
      · cases hx : opS P o.op (fun x => opd P N x s.env) s.mem with
        | enter f args m1 =>
          rw [hx] at hm hs
          simp only at hm
          simp only [hm, Option.some.injEq, Prod.mk.injEq] at hs
          obtain ⟨rfl, rfl⟩ := hs
          exact hQ _ _ _ ⟨R', hp, h.post hp, rfl, hch⟩
        | panic v m1 =>
          rw [hx] at hm hs
          obtain ⟨rfl, rfl⟩ := hm
          simp only [Option.some.injEq, Prod.mk.injEq] at hs
          obtain ⟨rfl, rfl⟩ := hs
          exact hQ _ _ _ ⟨R', hp, h.post hp, rfl, hch⟩
        | val _ _ => rw [hx] at hm; exact hm.elim
        | bad => rw [hx] at hm; exact hm.elim
        | recover => rw [hx] at hm; exact hm.elim
        | defer _ => rw [hx] at hm; exact hm.elim
        | round _ _ _ => rw [hx] at hm; exact hm.elim
      · cases hx : opS P o.op (fun x => opd P N x s.env) s.mem with
        | val _ _ => trivial
        | panic _ _ => trivial
        | bad => rw [hx] at hs; cases hs
        | recover => rw [hx] at hs; cases hs
        | enter f args m1 =>
          rw [hx] at hs
          simp only at hs ⊢
          cases hE : E.call f args m1 with
          | none => rw [hE] at hs; cases hs
          | some q => exact ⟨q, rfl⟩
        | round lp args m1 =>
          rw [hx] at hs
          simp only at hs ⊢
          cases hE : E.round lp args m1 with
          | none => rw [hE] at hs; cases hs
          | some q => exact ⟨q, rfl⟩
        | defer d =>
          rw [hx] at hs
          simp only at hs ⊢
          cases ro with
          | none => rfl
          | some n => simp only [Option.isSome_some, cond_true] at hs; cases hs
end Go.Ev
namespace Go.Ev
variable {P : Program} {R : Rho} {m : Mem} {w : World}

/-! ### Loops, unrolled -/
def LoopIn (F : Fence) (n : Nat) (P : Program) (c : Code) (Q : Exit → Act → World → Prop) (a : Act) (w : World) : Prop :=
  ∀ (b : Frame) (k : List Item) (cs : List Frame), b.roundOf = F.round → F.fn b.fn → F.room (cs.length + 1 + n) →
    ∃ e a' w', Q e a' w' ∧ ArrivesIn (Machine.fenced P F) P (lone (b.atR a (.code c :: .inLoop c :: k)) cs w) b k cs e a' w'
theorem wpIn_of_loop {F : Fence} {n : Nat} {c : Code} {Q : Exit → Act → World → Prop} {a : Act} (h : LoopIn F n P c Q a w) : (Code.loop c).wpIn F n P Q a w :=
  fun b k cs hro hb hr => let ⟨e, a', w', hq, harr⟩ := h b k cs hro hb hr; ⟨e, a', w', hq, .of_steps (.one (fenced_calm hb hr rfl) stepR_loop) harr⟩
theorem loopIn_of {F : Fence} {n : Nat} {c : Code} {Q : Exit → Act → World → Prop} {a : Act} (h : c.wpIn F n P (Exit.then (LoopIn F n P c Q) Q) a w) : LoopIn F n P c Q a w := by
  intro b k cs hro hb hr
  obtain ⟨e, a₁, w₁, hq, harr⟩ := h b (.inLoop c :: k) cs hro hb hr
  cases e with
  | normal =>
    obtain ⟨e₂, a₂, w₂, hq₂, harr₂⟩ := hq b k cs hro hb hr
    exact ⟨e₂, a₂, w₂, hq₂, .of_steps (StepsIn.trans harr (.one (fenced_calm hb hr rfl) stepR_inLoop)) harr₂⟩
  | exit id => exact ⟨_, a₁, w₁, hq, .pass (x := .inLoop c) rfl (fun _ _ => .inl (by simp)) harr⟩
  | goto l => exact ⟨_, a₁, w₁, hq, .pass (x := .inLoop c) rfl (fun _ _ => .inl (by simp)) harr⟩
  | ret => exact ⟨_, a₁, w₁, hq, .pass (x := .inLoop c) rfl (fun _ _ => .inl (by simp)) harr⟩
  | panic ch => exact ⟨_, a₁, w₁, hq, .pass (x := .inLoop c) rfl (fun _ _ => .inl (by simp)) harr⟩
  | outgrown => exact ⟨_, a₁, w₁, hq, .pass (x := .inLoop c) rfl (fun _ _ => .inl (by simp)) harr⟩

/-! ### The record -/
theorem loop_there (h : Rel P R m w) {l : Nat} (hl : l < m.nxt) {st : LoopState} {pend : Option Code} {env : Env} {N : Nat} {ps : Array Tmp} {asg body : Code} {d : Nat}
    (hg : m.get l = .yes (.loop st pend env N ps asg body d)) :
    ∃ fn tm, w.heap[R.b l]? = some (.loop ⟨st, pend, fn, tm, ps, asg, body, R.b d⟩) ∧ (Instr.getLoop (R.b l)).run P w = .ok ⟨st, pend, fn, tm, ps, asg, body, R.b d⟩ w ∧ envRel R N env tm ∧ d < m.nxt ∧ ∀ t, t < N → (env.get t).bel m.nxt := by
  obtain ⟨fn, tm, h1, h2⟩ := h.blk l _ hl hg
  obtain ⟨h3, h4⟩ := h.ok l _ hl hg
  refine ⟨fn, tm, h1, ?_, h2, h3, h4⟩
  have hget : (getObj (R.b l)).run P w = .ok (.loop ⟨st, pend, fn, tm, ps, asg, body, R.b d⟩) w := by simp [getObj, Sem.run, h1]
  simp only [Instr.getLoop, Sem.run_bind, hget, Result.andThen_ok, Sem.run_pure]

theorem loop_set (h : Rel P R m w) {l : Nat} (hl : l < m.nxt) {st : LoopState} {pend : Option Code} {env : Env} {N : Nat} {ps : Array Tmp} {asg body : Code} {d : Nat}
    (hg : m.get l = .yes (.loop st pend env N ps asg body d)) {fn : FuncId} {tm : Array Value} (hb : w.heap[R.b l]? = some (.loop ⟨st, pend, fn, tm, ps, asg, body, R.b d⟩)) (hr : envRel R N env tm)
    (st' : LoopState) (pend' : Option Code) :
    ∃ w', (setObj (R.b l) (.loop ⟨st', pend', fn, tm, ps, asg, body, R.b d⟩)).run P w = .ok () w' ∧ Post P R m w R (m.set l (.loop st' pend' env N ps asg body d)) w' := by
  refine ⟨{ w with heap := w.heap.setIfInBounds (R.b l) (.loop ⟨st', pend', fn, tm, ps, asg, body, R.b d⟩) }, by simp [setObj, Sem.run, hb], ?_⟩
  obtain ⟨h3, h4⟩ := h.ok l _ hl hg
  have hlt : R.b l < w.heap.size := h.block_lt ⟨hl, by rw [hg]; exact fun e => by cases e⟩
  refine h.upd hl (by rw [hg]; exact fun e => by cases e) _ _ ⟨h3, h4⟩ (by simp) (fun k hk => ?_) ⟨fn, tm, ?_, hr⟩
  · rw [Array.getElem?_setIfInBounds_ne (Ne.symm hk)]
  · simp [hlt]

theorem enterL_ok (h : Rel P R m w) {N : Nat} {s : St} (hs : s.mem = m) {a : Act} (hA : At P R N s a w) {r : Option Nat} (hrl : ∀ l, r = some l → l < m.nxt) {q : Nat × List (ADf ⊕ Nat) × Mem}
    (hq : enterL r m = some q) (fn : FuncId) (ps : Array Tmp) (asg body : Code) :
    ∃ R' mark w', (Instr.enterLoop fn a.tmps ps asg body (r.map R.b)).run P w = .ok (R'.b q.2.2.nxt, mark) w' ∧ Post P R m w R' (q.2.2.new (.loop .ready none s.env N ps asg body q.1)) w' ∧
      q.2.2.nxt < (q.2.2.new (.loop .ready none s.env N ps asg body q.1)).nxt ∧ dfsRel R' (q.2.2.new (.loop .ready none s.env N ps asg body q.1)).nxt (q.2.1 ++ s.dfs) (mark ++ a.defers) := by
  subst hs
  cases r with
  | none =>
    simp only [enterL] at hq
    cases hlt : Nat.blt s.mem.nxt 32767 with
    | false => rw [hlt] at hq; cases hq
    | true =>
      rw [hlt, cond_true, Option.some.injEq] at hq
      subst hq
      have hlt' : s.mem.nxt < 32767 := by simpa using hlt
      obtain ⟨R1, w1, h1, h2⟩ := newObj_ok h (by omega) (.dfr true) (.deferred (some [])) trivial (fun R' => rfl)
      have hA1 := hA.post h2
      have hn1 : (s.mem.new (.dfr true)).nxt = s.mem.nxt + 1 := rfl
      obtain ⟨R2, k1, _, k3⟩ := h2.rel.new (by rw [hn1]; omega) (.loop .ready none s.env N ps asg body s.mem.nxt) (.loop ⟨.ready, none, fn, a.tmps, ps, asg, body, R1.b s.mem.nxt⟩) 0
        ⟨by rw [hn1]; omega, fun t ht => SV.bel_mono (Nat.le_succ _) _ (hA1.env.2 t ht)⟩
        (fun R' he _ _ => ⟨fn, a.tmps, by rw [(he s.mem.nxt (by rw [hn1]; omega)).1], (hA1.env.1.ext he hA1.env.2)⟩)
      refine ⟨R2, [{ target := .collected (R1.b s.mem.nxt), args := #[] }], _, ?_, h2.trans k3, Nat.lt_succ_self _, ?_⟩
      · simp only [Instr.enterLoop, Option.map_none, Sem.run_bind, h1, Result.andThen_ok, Sem.run_pure]
        show _ = Result.ok (R2.b (s.mem.new (.dfr true)).nxt, _) _
        rw [k1]
        rfl
      · refine ⟨_, _, rfl, ⟨?_, ?_⟩, ?_⟩
        · show s.mem.nxt < _
          show s.mem.nxt < s.mem.nxt + 1 + 1
          omega
        · rw [(k3.ext s.mem.nxt (by rw [hn1]; omega)).1]
        · exact (hA1.dfs.ext k3.ext k3.nxt)
  | some l =>
    simp only [enterL] at hq
    have hll := hrl l rfl
    cases hg : s.mem.get l with
    | no => rw [hg] at hq; cases hq
    | yes b =>
      cases b with
      | loop st pend env N' ps' asg' body' d =>
        rw [hg] at hq
        simp only at hq
        cases hlt : Nat.blt s.mem.nxt 32767 with
        | false => rw [hlt] at hq; cases hq
        | true =>
          rw [hlt, cond_true, Option.some.injEq] at hq
          subst hq
          have hlt' : s.mem.nxt < 32767 := by simpa using hlt
          obtain ⟨fn', tm, g1, g2, g3, g4, g5⟩ := loop_there h hll hg
          obtain ⟨R2, k1, _, k3⟩ := h.new (by omega) (.loop .ready none s.env N ps asg body d) (.loop ⟨.ready, none, fn, a.tmps, ps, asg, body, R.b d⟩) 0
            ⟨by omega, fun t ht => SV.bel_mono (Nat.le_succ _) _ (hA.env.2 t ht)⟩
            (fun R' he _ _ => ⟨fn, a.tmps, by rw [(he d g4).1], (hA.env.1.ext he hA.env.2)⟩)
          refine ⟨R2, [], _, ?_, k3, Nat.lt_succ_self _, hA.dfs.ext k3.ext k3.nxt⟩
          simp only [Instr.enterLoop, Option.map_some, Sem.run_bind, g2, Result.andThen_ok, Sem.run_pure]
          show _ = Result.ok (R2.b s.mem.nxt, _) _
          rw [k1]
          rfl
      | _ => rw [hg] at hq; cases hq

theorem endL_ok (h : Rel P R m w) {l : Nat} (hl : l < m.nxt) {x : AEx × Mem} (hx : endL m l = some x) :
    ∃ pend w', (Instr.endLoop (R.b l)).run P w = .ok pend w' ∧ Post P R m w R x.2 w' ∧ pendX pend = some x.1 := by
  unfold endL at hx
  cases hg : m.get l with
  | no => rw [hg] at hx; cases hx
  | yes b =>
    cases b with
    | loop st pend env N ps asg body d =>
      rw [hg] at hx
      obtain ⟨fn, tm, g1, g2, g3, g4, g5⟩ := loop_there h hl hg
      obtain ⟨w', k1, k2⟩ := loop_set h hl hg g1 g3 .exhausted pend
      cases hp : pendX pend with
      | none => cases st <;> (simp only [hp] at hx; cases hx)
      | some ex =>
        have hst : (st == LoopState.busy) = false := by cases st <;> first | rfl | (simp only at hx; cases hx)
        have hx2 : x = (ex, m.set l (.loop .exhausted pend env N ps asg body d)) := by
          cases st <;> (simp only [hp] at hx; first | (cases hx; done) | exact (Option.some.inj hx).symm)
        subst hx2
        refine ⟨pend, w', ?_, k2, hp⟩
        simp only [Instr.endLoop, Sem.run_bind, g2, Result.andThen_ok, hst, Bool.false_eq_true, if_false, Sem.run_pure, k1]
    | _ => rw [hg] at hx; cases hx
end Go.Ev
namespace Go.Ev
variable {P : Program} {R : Rho} {m : Mem} {w : World}

def LoopOK (P : Program) (E : EvF) : Prop := ∀ N ro c s ex s', E.loop N ro c s = some (ex, s') → ∀ (R0 R : Rho) (a : Act) (w : World) (Q : Exit → Act → World → Prop),
  ro.map R0.b = ro.map R.b → (∀ n, ro = some n → n < s.mem.nxt) → At P R N s a w → (∀ e a' w', CodeOK P R s.mem w N ex s' e a' w' → Q e a' w') → LoopIn (fnc R0 ro) 0 P c Q a w
def DrawLaw (P : Program) (E : EvF) : Prop := ∀ (R0 R : Rho) N ro (ops : Array Oper) s q (a : Act) (w : World) (Q : Exit → Act → World → Prop),
  drawOK P ops = true → drawS P ops (befs ops.toList) N E ops.toList 0 ⟨s.env, s.mem, s.mem, [], [], []⟩ = some q → ro.map R0.b = ro.map R.b → (∀ n, ro = some n → n < s.mem.nxt) → At P R N s a w →
  (∀ e a' w', CodeOK P R s.mem w N .normal ⟨q.1, s.dfs, q.2⟩ e a' w' → Q e a' w') → wpAnyIn (fnc R0 ro) 0 P .any ops Q ops.size (Array.replicate ops.size false) a w
/-- No function that has a body bears the one name that a call looks at. -/
def NoGor (P : Program) : Prop := ∀ (f : FuncId) (fn : Func), P.funcs[f]? = some fn → fn.body.isNone = false → (fn.name == "runtime.NumGoroutine") = false
structure Sound (P : Program) (E : EvF) : Prop where
  call : CallOK P E
  round : RoundOK P E
  loop : LoopOK P E
  draw : DrawLaw P E

theorem hasBody_run (hN : NoGor P) {f : FuncId} (h : hasBody P f = true) (args : Array Value) (w : World) : (callFunc f args).run P w = .ok (.enter f args) w := by
  unfold hasBody at h
  cases hf : P.funcs[f]? with
  | none => rw [hf] at h; cases h
  | some fn =>
    rw [hf] at h
    simp only at h
    cases hb : fn.body with
    | none => rw [hb] at h; cases h
    | some c => exact callFunc_body hf (by rw [hb]; rfl) (hN f fn hf (by rw [hb]; rfl)) args w

theorem stepR_scope {b : Frame} {a : Act} {k : List Item} {cs : List Frame} {c : Code} : step P (lone (b.atR a (.code (.scope c) :: k)) cs w) = .next (lone (b.atR a (.code c :: .inScope c :: k)) cs w) :=
  step_lone_go (by simp [stepG, stepG.exec, Frame.atR])
theorem stepR_inScope {b : Frame} {a : Act} {k : List Item} {cs : List Frame} {c : Code} : step P (lone (b.atR a (.inScope c :: k)) cs w) = .next (lone (b.atR a k) cs w) :=
  step_lone_go (by simp [stepG, stepG.exec, Frame.atR])
theorem wpIn_scope {F : Fence} {n : Nat} {c : Code} {Q : Exit → Act → World → Prop} {a : Act} (h : c.wpIn F n P (Exit.noGoto Q) a w) : (Code.scope c).wpIn F n P Q a w := by
  intro b k cs hro hb hr
  have h0 : (lone (b.atR a (.code (.scope c) :: k)) cs w).fenced P F := fenced_calm hb hr rfl
  obtain ⟨e, a₁, w₁, hq, harr⟩ := h b (.inScope c :: k) cs hro hb hr
  cases e with
  | normal => exact ⟨.normal, a₁, w₁, hq, .head h0 stepR_scope (StepsIn.trans harr (.one (fenced_calm hb hr rfl) stepR_inScope))⟩
  | exit id =>
    have hx : exitTo id (.inScope c :: k) = exitTo id k := by simp [exitTo]
    exact ⟨.exit id, a₁, w₁, hq, fun k' hk => .head h0 stepR_scope (harr.1 k' (by rw [hx]; exact hk)),
      fun hr' hk => let ⟨k₁, h1, h2⟩ := harr.2 hr' (by rw [hx]; exact hk); ⟨k₁, h1, .head h0 stepR_scope h2⟩⟩
  | goto l => exact hq.elim
  | ret => exact ⟨_, a₁, w₁, hq, .of_steps (.one h0 stepR_scope) harr⟩
  | panic ch => exact ⟨_, a₁, w₁, hq, .of_steps (.one h0 stepR_scope) harr⟩
  | outgrown => exact ⟨_, a₁, w₁, hq, .of_steps (.one h0 stepR_scope) harr⟩

theorem pend_wp {F : Fence} {n : Nat} {Q : Exit → Act → World → Prop} {a : Act} {x : AEx} (pend : Option Code) : pendX pend = some x → (∀ e, exRel R 0 x e → Q e a w) → match pend with
      | none => Q .normal a w
      | some c => c.wpIn F n P Q a w := by
  intro hp hQ
  cases pend with
  | none =>
    simp only [pendX, Option.some.injEq] at hp
    subst hp
    exact hQ .normal rfl
  | some c =>
    cases c <;> simp only [pendX, Option.some.injEq] at hp <;> first
      | (cases hp; done)
      | skip
    · subst hp; exact wpIn_exit (hQ _ rfl)
    · subst hp; exact wpIn_ret (hQ _ rfl)

theorem rangeS_ok {E : EvF} (hN : NoGor P) (hC : CallOK P E) {N : Nat} {ro : Option Nat} {R0 : Rho} {s s' : St} {a : Act} (hF : ro.map R0.b = ro.map R.b) (hro : ∀ n, ro = some n → n < s.mem.nxt)
    (h : At P R N s a w) {g : Operand} {ps : Array Tmp} {asg body : Code} {ex : AEx} {Q : Exit → Act → World → Prop}
    (hs : rangeS P N E ps asg body ro s (opd P N g s.env) = some (ex, s')) (hQ : ∀ e a' w', CodeOK P R s.mem w N ex s' e a' w' → Q e a' w') : (Code.rangeFunc g ps asg body).wpIn (fnc R0 ro) 0 P Q a w := by
  cases hg : opd P N g s.env with
  | none => rw [hg] at hs; cases hs
  | some v =>
    rw [hg] at hs
    obtain ⟨hev, hbel⟩ := opd_ok h.rel h.env g v hg
    cases v with
    | fn f fs cap =>
      simp only [rangeS] at hs
      cases hb : hasBody P f with
      | false => rw [hb] at hs; cases hs
      | true =>
        rw [hb, cond_true] at hs
        cases hq : enterL ro s.mem with
        | none => rw [hq] at hs; cases hs
        | some q =>
          rw [hq] at hs
          simp only at hs
          refine wpIn_rangeFunc fun fn _ => ?_
          obtain ⟨R1, mark, w1, e1, e2, e3, e4⟩ := enterL_ok h.rel rfl h hro hq fn ps asg body
          rw [fnc_round, hF]
          have hev' : a.eval g = .func (.func f) (denL R fs).toArray (denL R cap).toArray := by rw [hev]; simp only [den]
          refine ⟨R1.b q.2.2.nxt, mark, w1, { target := .fn (.func f) (denL R cap).toArray, args := (denL R fs).toArray ++ (#[Value.func (Fn.yield (R1.b q.2.2.nxt)) #[] #[]] : Array Value) }, w1, f,
            (denL R fs).toArray ++ (#[Value.func (Fn.yield (R1.b q.2.2.nxt)) #[] #[]] : Array Value) ++ (denL R cap).toArray, w1, e1, ?_, fun f' _ => fnc_fn R0 ro f', (hasBody_run hN hb ((denL R fs).toArray ++ (#[Value.func (Fn.yield (R1.b q.2.2.nxt)) #[] #[]] : Array Value) ++ (denL R cap).toArray) w1 :), fun hh => (by rw [fnc_depth] at hh; cases hh), ?_⟩
          · simp only [resolve, hev', Sem.run_pure, Deferred.ofValue]
            simp [Act.eval]
          · cases hcall : E.call f (fs.toL ++ .tag (.yld q.2.2.nxt) :: cap.toL) (q.2.2.new (.loop .ready none s.env N ps asg body q.1)) with
            | none => rw [hcall] at hs; cases hs
            | some r =>
              obtain ⟨e, m3⟩ := r
              rw [hcall] at hs
              have hbl : ∀ v ∈ fs.toL ++ .tag (.yld q.2.2.nxt) :: cap.toL, v.bel (q.2.2.new (.loop .ready none s.env N ps asg body q.1)).nxt := by
                intro v hv
                rcases List.mem_append.1 hv with hv | hv
                · exact SV.bel_mono e2.nxt _ (toL_bel fs hbel.1 v hv)
                · rcases List.mem_cons.1 hv with rfl | hv
                  · exact e3
                  · exact SV.bel_mono e2.nxt _ (toL_bel cap hbel.2 v hv)
              have hcl := hC _ _ _ _ _ hcall R1 w1 e2.rel hbl
              have hargs : ((fs.toL ++ .tag (.yld q.2.2.nxt) :: cap.toL).map (den R1)).toArray = (denL R fs).toArray ++ (#[Value.func (Fn.yield (R1.b q.2.2.nxt)) #[] #[]] : Array Value) ++ (denL R cap).toArray := by
                have k1 : fs.toL.map (den R1) = denL R fs := by rw [map_den_ext e2.ext (toL_bel fs hbel.1), denL_toL]
                have k2 : cap.toL.map (den R1) = denL R cap := by rw [map_den_ext e2.ext (toL_bel cap hbel.2), denL_toL]
                simp only [List.map_append, List.map_cons, k1, k2, den]
                simp
              rw [hargs, hasBody_run hN hb] at hcl
              refine CallsIn.mono (fnc_calls R0 ro hcl) fun e' w' he => ?_
              obtain ⟨R2, p1, p2⟩ := he
              have hA2 : At P R2 N ⟨s.env, q.2.1 ++ s.dfs, m3⟩ { a with defers := mark ++ a.defers } w' :=
                ⟨p1.rel, h.env.ext (e2.trans p1).ext (e2.trans p1).nxt, e4.ext p1.ext p1.nxt⟩
              cases e with
              | pan ch =>
                obtain ⟨rfl, p3⟩ := p2
                simp only [Option.some.injEq, Prod.mk.injEq] at hs
                obtain ⟨rfl, rfl⟩ := hs
                exact hQ _ _ _ ⟨R2, e2.trans p1, hA2, rfl, p3⟩
              | ret v =>
                obtain ⟨rfl, p3⟩ := p2
                simp only at hs
                cases hx : endL m3 q.2.2.nxt with
                | none => rw [hx] at hs; cases hs
                | some x =>
                  rw [hx] at hs
                  simp only [Option.some.injEq, Prod.mk.injEq] at hs
                  obtain ⟨rfl, rfl⟩ := hs
                  obtain ⟨pend, w4, j1, j2, j3⟩ := endL_ok p1.rel (Nat.lt_of_lt_of_le e3 p1.nxt) hx
                  refine ⟨pend, w4, by rw [← (p1.ext _ e3).1]; exact j1, pend_wp (R := R2) pend j3 fun e he => hQ e _ _ ⟨R2, (e2.trans p1).trans j2, hA2.post j2, ?_⟩⟩
                  cases hxe : x.1 with
                  | pan ch => rw [hxe] at j3; cases pend with
                    | none => cases j3
                    | some c => cases c <;> cases j3
                  | _ => rw [hxe] at he; exact he
    | _ => cases hs

theorem codeS_ok {E : EvF} (hm : P.follows .mixedOrders = true) (hN : NoGor P) (hE : Sound P E) {N : Nat} {ro : Option Nat} {R0 : Rho} :
    ∀ (c : Code) (R : Rho) (s : St) (a : Act) (w : World) (ex : AEx) (s' : St) (Q : Exit → Act → World → Prop), ro.map R0.b = ro.map R.b → (∀ n, ro = some n → n < s.mem.nxt) → At P R N s a w →
      codeS P N c E ro s = some (ex, s') → (∀ e a' w', CodeOK P R s.mem w N ex s' e a' w' → Q e a' w') → c.wpIn (fnc R0 ro) 0 P Q a w := by
  -- how the frame's round is kept
  have keep : ∀ {R R' : Rho} {m m' : Mem} {w w' : World}, Post P R m w R' m' w' → ro.map R0.b = ro.map R.b → (∀ n, ro = some n → n < m.nxt) → ro.map R0.b = ro.map R'.b ∧ ∀ n, ro = some n → n < m'.nxt := by
    intro R R' m m' w w' hp hF hro
    refine ⟨?_, fun n hn => Nat.lt_of_lt_of_le (hro n hn) hp.nxt⟩
    rw [hF]
    cases ro with
    | none => rfl
    | some n => simp only [Option.map_some, (hp.ext n (hro n rfl)).1]
  intro c
  induction c with
  | skip =>
    intro R s a w ex s' Q hF hro h hs hQ
    simp only [codeS, Option.some.injEq, Prod.mk.injEq] at hs
    obtain ⟨rfl, rfl⟩ := hs
    exact wpIn_skip (hQ _ _ _ ⟨R, Post.refl h.rel, h, rfl⟩)
  | label l =>
    intro R s a w ex s' Q hF hro h hs hQ
    simp only [codeS, Option.some.injEq, Prod.mk.injEq] at hs
    obtain ⟨rfl, rfl⟩ := hs
    exact wpIn_label (hQ _ _ _ ⟨R, Post.refl h.rel, h, rfl⟩)
  | exit id =>
    intro R s a w ex s' Q hF hro h hs hQ
    simp only [codeS, Option.some.injEq, Prod.mk.injEq] at hs
    obtain ⟨rfl, rfl⟩ := hs
    exact wpIn_exit (hQ _ _ _ ⟨R, Post.refl h.rel, h, rfl⟩)
  | ret =>
    intro R s a w ex s' Q hF hro h hs hQ
    simp only [codeS, Option.some.injEq, Prod.mk.injEq] at hs
    obtain ⟨rfl, rfl⟩ := hs
    exact wpIn_ret (hQ _ _ _ ⟨R, Post.refl h.rel, h, rfl⟩)
  | goto l => intro R s a w ex s' Q hF hro h hs hQ; cases hs
  | refuse x => intro R s a w ex s' Q hF hro h hs hQ; cases hs
  | region id ops draw =>
    intro R s a w ex s' Q hF hro h hs hQ
    cases draw with
    | false =>
      simp only [codeS, cond_false] at hs
      exact wpIn_region_list (opsS_ok hE.call hE.round _ R s a w hF hro h hs hQ)
    | true =>
      simp only [codeS, cond_true] at hs
      cases hd : drawOK P ops with
      | false => rw [hd] at hs; cases hs
      | true =>
        rw [hd, cond_true] at hs
        cases hq : drawS P ops (befs ops.toList) N E ops.toList 0 ⟨s.env, s.mem, s.mem, [], [], []⟩ with
        | none => rw [hq] at hs; cases hs
        | some q =>
          rw [hq] at hs
          simp only [Option.some.injEq, Prod.mk.injEq] at hs
          obtain ⟨rfl, rfl⟩ := hs
          have hp := h.rel.drew (w.drawn + 1)
          exact wpIn_region_any hm (hE.draw R0 R N ro ops s q a _ Q hd hq hF hro (h.post hp) fun e a' w' hc => hQ _ _ _ (hc.after hp))
  | seq x y ihx ihy =>
    intro R s a w ex s' Q hF hro h hs hQ
    simp only [codeS] at hs
    cases hx : codeS P N x E ro s with
    | none => rw [hx] at hs; cases hs
    | some r =>
      obtain ⟨e1, s1⟩ := r
      rw [hx] at hs
      refine wpIn_seq (ihx R s a w e1 s1 _ hF hro h hx fun e a' w' hc => ?_)
      obtain ⟨R1, p1, p2, p3⟩ := hc
      cases e1 with
      | normal =>
        have : e = .normal := p3
        subst this
        obtain ⟨k1, k2⟩ := keep p1 hF hro
        exact ihy R1 s1 a' w' ex s' Q k1 k2 p2 hs fun e a2 w2 hc => hQ _ _ _ (hc.after p1)
      | exit id =>
        simp only [Option.some.injEq, Prod.mk.injEq] at hs
        obtain ⟨rfl, rfl⟩ := hs
        have : e = .exit id := p3
        subst this
        exact hQ _ _ _ ⟨R1, p1, p2, rfl⟩
      | ret =>
        simp only [Option.some.injEq, Prod.mk.injEq] at hs
        obtain ⟨rfl, rfl⟩ := hs
        have : e = .ret := p3
        subst this
        exact hQ _ _ _ ⟨R1, p1, p2, rfl⟩
      | pan ch =>
        simp only [Option.some.injEq, Prod.mk.injEq] at hs
        obtain ⟨rfl, rfl⟩ := hs
        obtain ⟨rfl, p4⟩ := p3
        exact hQ _ _ _ ⟨R1, p1, p2, rfl, p4⟩
  | cond c x y ihx ihy =>
    intro R s a w ex s' Q hF hro h hs hQ
    simp only [codeS] at hs
    cases hc : opd P N c s.env with
    | none => rw [hc] at hs; cases hs
    | some v =>
      rw [hc] at hs
      obtain ⟨k1, k2⟩ := opd_ok h.rel h.env c v hc
      cases v with
      | bool t =>
        cases t with
        | true => exact wpIn_cond_true (by rw [k1]; rfl) (ihx R s a w ex s' Q hF hro h hs hQ)
        | false => exact wpIn_cond_false (by rw [k1]; rfl) (ihy R s a w ex s' Q hF hro h hs hQ)
      | _ => cases hs
  | block id x ih =>
    intro R s a w ex s' Q hF hro h hs hQ
    simp only [codeS] at hs
    cases hx : codeS P N x E ro s with
    | none => rw [hx] at hs; cases hs
    | some r =>
      obtain ⟨e1, s1⟩ := r
      rw [hx] at hs
      refine wpIn_block (ih R s a w e1 s1 _ hF hro h hx fun e a' w' hc => ?_)
      obtain ⟨R1, p1, p2, p3⟩ := hc
      cases e1 with
      | normal =>
        have : e = .normal := p3
        subst this
        simp only [Option.some.injEq, Prod.mk.injEq] at hs
        obtain ⟨rfl, rfl⟩ := hs
        exact hQ _ _ _ ⟨R1, p1, p2, rfl⟩
      | exit j =>
        have : e = .exit j := p3
        subst this
        simp only at hs
        cases hj : Nat.beq j id with
        | true =>
          rw [hj] at hs
          simp only [cond_true, Option.some.injEq, Prod.mk.injEq] at hs
          obtain ⟨rfl, rfl⟩ := hs
          simp only [Exit.inBlock, Nat.eq_of_beq_eq_true hj, if_true]
          exact hQ _ _ _ ⟨R1, p1, p2, rfl⟩
        | false =>
          rw [hj] at hs
          simp only [cond_false, Option.some.injEq, Prod.mk.injEq] at hs
          obtain ⟨rfl, rfl⟩ := hs
          simp only [Exit.inBlock, if_neg (Nat.ne_of_beq_eq_false hj)]
          exact hQ _ _ _ ⟨R1, p1, p2, rfl⟩
      | ret =>
        simp only [Option.some.injEq, Prod.mk.injEq] at hs
        obtain ⟨rfl, rfl⟩ := hs
        have : e = .ret := p3
        subst this
        exact hQ _ _ _ ⟨R1, p1, p2, rfl⟩
      | pan ch =>
        simp only [Option.some.injEq, Prod.mk.injEq] at hs
        obtain ⟨rfl, rfl⟩ := hs
        obtain ⟨rfl, p4⟩ := p3
        exact hQ _ _ _ ⟨R1, p1, p2, rfl, p4⟩
  | scope x ih =>
    intro R s a w ex s' Q hF hro h hs hQ
    refine wpIn_scope (ih R s a w ex s' _ hF hro h hs fun e a' w' hc => ?_)
    have hq := hQ e a' w' hc
    obtain ⟨R1, p1, p2, p3⟩ := hc
    cases e with
    | goto l => cases ex <;> first | (have p3 : _ = _ := p3; cases p3; done) | (have p3 := p3.1; cases p3; done)
    | _ => exact hq
  | loop x ih =>
    intro R s a w ex s' Q hF hro h hs hQ
    simp only [codeS] at hs
    cases hx : codeS P N x E ro s with
    | none => rw [hx] at hs; cases hs
    | some r =>
      obtain ⟨e1, s1⟩ := r
      rw [hx] at hs
      refine wpIn_of_loop (loopIn_of (ih R s a w e1 s1 _ hF hro h hx fun e a' w' hc => ?_))
      obtain ⟨R1, p1, p2, p3⟩ := hc
      cases e1 with
      | normal =>
        have : e = .normal := p3
        subst this
        obtain ⟨k1, k2⟩ := keep p1 hF hro
        exact hE.loop N ro x s1 ex s' hs R0 R1 a' w' Q k1 k2 p2 fun e a2 w2 hc => hQ _ _ _ (hc.after p1)
      | exit id =>
        simp only [Option.some.injEq, Prod.mk.injEq] at hs
        obtain ⟨rfl, rfl⟩ := hs
        have : e = .exit id := p3
        subst this
        exact hQ _ _ _ ⟨R1, p1, p2, rfl⟩
      | ret =>
        simp only [Option.some.injEq, Prod.mk.injEq] at hs
        obtain ⟨rfl, rfl⟩ := hs
        have : e = .ret := p3
        subst this
        exact hQ _ _ _ ⟨R1, p1, p2, rfl⟩
      | pan ch =>
        simp only [Option.some.injEq, Prod.mk.injEq] at hs
        obtain ⟨rfl, rfl⟩ := hs
        obtain ⟨rfl, p4⟩ := p3
        exact hQ _ _ _ ⟨R1, p1, p2, rfl, p4⟩
  | rangeFunc g ps asg body =>
    intro R s a w ex s' Q hF hro h hs hQ
    exact rangeS_ok hN hE.call hF hro h hs hQ
end Go.Ev
namespace Go.Ev
variable {P : Program} {R : Rho} {m : Mem} {w : World}

/-! ### Arguments and results -/
theorem argsE_get : ∀ (args : List SV) (i : Nat) (e : Env) (t : Nat), i + args.length ≤ 512 → t < 512 →
    (argsE args i e).get t = if i ≤ t ∧ t < i + args.length then args.getD (t - i) .und else e.get t
  | [], i, e, t, _, _ => by
    have : ¬ (i ≤ t ∧ t < i + ([] : List SV).length) := by simp
    rw [if_neg this]
    rfl
  | v :: l, i, e, t, hi, ht => by
    simp only [List.length_cons] at hi
    simp only [argsE]
    rw [argsE_get l (i + 1) _ t (by omega) ht, Env.get_set e v (by omega) ht]
    by_cases h1 : i + 1 ≤ t ∧ t < i + 1 + l.length
    · rw [if_pos h1, if_pos ⟨by omega, by simp only [List.length_cons]; omega⟩]
      have : t - i = (t - (i + 1)) + 1 := by omega
      rw [this]
      simp [List.getD_cons_succ]
    · rw [if_neg h1]
      by_cases h2 : i = t
      · subst h2
        rw [if_pos rfl, if_pos ⟨Nat.le_refl _, by simp only [List.length_cons]; omega⟩]
        simp
      · rw [if_neg h2, if_neg (by simp only [List.length_cons]; omega)]

theorem enter_env {M : Nat} {args : List SV} (ha : ∀ v ∈ args, v.bel M) {N : Nat} (hl : args.length ≤ N) (hN : N ≤ 512) :
    envOK R N M (argsE args 0 Env.none) ((args.map (den R)).toArray ++ Array.replicate (N - (args.map (den R)).toArray.size) undef) := by
  have hg : ∀ t, t < N → (argsE args 0 Env.none).get t = if t < args.length then args.getD t .und else .und := fun t ht => by
    rw [argsE_get args 0 _ t (by omega) (by omega), Env.get_none]
    simp
  refine ⟨⟨by simp; omega, hN, fun t ht => ?_⟩, fun t ht => ?_⟩
  · rw [hg t ht, Array.getD_eq_getD_getElem?]
    by_cases h1 : t < args.length
    · rw [if_pos h1]
      simp [h1, Array.getElem?_append]
    · rw [if_neg h1, den_und]
      simp [Array.getElem?_append, h1]
      by_cases h2 : t - args.length < N - args.length <;> simp [Array.getElem?_replicate, h2]
  · rw [hg t ht]
    by_cases h1 : t < args.length
    · rw [if_pos h1]
      simp only [List.getD_eq_getElem?_getD, List.getElem?_eq_getElem h1, Option.getD_some]
      exact ha _ (List.getElem_mem h1)
    · rw [if_neg h1]
      trivial

theorem resS_ok (h : Rel P R m w) {N : Nat} {env : Env} {tmps : Array Value} (he : envOK R N m.nxt env tmps) : ∀ (rs : List ResultVar) (l : List SV), resS P env m N rs = some l →
    (rs.mapM (m := Sem) fun x => match x with
      | .tmp t => pure (tmps.getD t undef)
      | .cell a t => do loadVar t (← asAddr (tmps.getD a undef))).run P w = .ok (l.map (den R)) w ∧ ∀ v ∈ l, v.bel m.nxt
  | [], l, hs => by
    simp only [resS, Option.some.injEq] at hs
    subst hs
    exact ⟨by simp, fun v hv => by cases hv⟩
  | r :: rs, l, hs => by
    simp only [resS] at hs
    cases hq : resS P env m N rs with
    | none => rw [hq] at hs; cases hs
    | some q =>
      rw [hq] at hs
      obtain ⟨k1, k2⟩ := resS_ok h he rs q hq
      cases r with
      | tmp t =>
        simp only at hs
        cases ht : Nat.blt t N with
        | false => rw [ht] at hs; cases hs
        | true =>
          rw [ht, cond_true, Option.some.injEq] at hs
          subst hs
          have ht' : t < N := by simpa using ht
          refine ⟨?_, fun v hv => ?_⟩
          · simp only [List.mapM_cons, Sem.run_bind, Sem.run_pure, Result.andThen_ok, k1, he.1.2.2 t ht', List.map_cons]
          · rcases List.mem_cons.1 hv with rfl | hv
            · exact he.2 t ht'
            · exact k2 v hv
      | cell a t =>
        simp only at hs
        cases ht : Nat.blt a N with
        | false => rw [ht] at hs; cases hs
        | true =>
          rw [ht, cond_true] at hs
          have ht' : a < N := by simpa using ht
          have hd := he.1.2.2 a ht'
          have hbl := he.2 a ht'
          cases hv : env.get a with
          | ptr nm off =>
            rw [hv] at hs hd hbl
            simp only at hs
            cases hl : loadS P t m nm off with
            | none => rw [hl] at hs; cases hs
            | some v =>
              rw [hl] at hs
              simp only [Option.some.injEq] at hs
              subst hs
              obtain ⟨j1, j2⟩ := loadVar_ok h hbl hl
              refine ⟨?_, fun u hu => ?_⟩
              · have ha : (asAddr (tmps.getD a undef)).run P w = .ok ⟨R.b nm, off, none⟩ w := by rw [hd]; rfl
                simp only [List.mapM_cons, Sem.run_bind, Sem.run_pure, Result.andThen_ok, ha, j1, k1, List.map_cons]
              · rcases List.mem_cons.1 hu with rfl | hu
                · exact j2
                · exact k2 u hu
          | _ => rw [hv] at hs; cases hs

theorem resV_ok (h : Rel P R m w) {N : Nat} {env : Env} {tmps : Array Value} (he : envOK R N m.nxt env tmps) {fn : Func} {v : SV} (hs : resV P env m N fn.results.toList = some v) :
    (results fn tmps).run P w = .ok (den R v) w ∧ v.bel m.nxt := by
  unfold resV at hs
  cases hq : resS P env m N fn.results.toList with
  | none => rw [hq] at hs; cases hs
  | some l =>
    rw [hq] at hs
    obtain ⟨k1, k2⟩ := resS_ok h he _ _ hq
    have hr : (results fn tmps).run P w = .ok (if h : (l.map (den R)).toArray.size = 1 then (l.map (den R)).toArray[0] else .tuple (l.map (den R)).toArray) w := by
      unfold results
      rw [Sem.run_bind, Array.mapM_eq_mapM_toList]
      simp only [Sem.run_map]
      erw [k1]
      rfl
    rw [hr]
    cases l with
    | nil =>
      simp only [Option.some.injEq] at hs
      subst hs
      exact ⟨by simp [den, denL_ofL], trivial⟩
    | cons a l =>
      cases l with
      | nil =>
        simp only [Option.some.injEq] at hs
        subst hs
        exact ⟨by simp, k2 _ (by simp)⟩
      | cons b l =>
        simp only [Option.some.injEq] at hs
        subst hs
        exact ⟨by simp [den, denL_ofL], bel_ofL k2⟩

/-! ### Deferred calls -/
def mdMode (R : Rho) : Md → FrameMode
  | none => .returning
  | some ch => .panicking (chD R ch)
def mdBel (N : Nat) : Md → Prop
  | none => True
  | some ch => chBel N ch
theorem mdMode_ext {R' : Rho} {N : Nat} (he : R.ext R' N) {md : Md} (h : mdBel N md) : mdMode R' md = mdMode R md := by
  cases md with
  | none => rfl
  | some ch => simp only [mdMode, chD_ext he h]
theorem mdBel_mono {N M : Nat} (hM : N ≤ M) {md : Md} (h : mdBel N md) : mdBel M md := by
  cases md with
  | none => trivial
  | some ch => exact fun q hq => SV.bel_mono hM _ (h q hq)
def DEndOK (P : Program) (R : Rho) (m : Mem) (w : World) (e : AEnd) (md' : Md) (m' : Mem) (e' : Ending) (u' : FrameMode) (w' : World) : Prop :=
  ∃ R', Post P R m w R' m' w' ∧ endRel R' m'.nxt e e' ∧ u' = mdMode R' md' ∧ mdBel m'.nxt md'
def DcallOK (P : Program) (E : EvF) : Prop := ∀ f args md m e md' m', E.dcall f args md m = some (e, md', m') → ∀ R w, Rel P R m w → (∀ v ∈ args, v.bel m.nxt) → mdBel m.nxt md →
  hasBody P f = true ∧ CallsDIn Fence.wide 0 P f (args.map (den R)).toArray (mdMode R md) w (DEndOK P R m w e md' m')

theorem settle_ok {md : Md} : settle (mdMode R md) = mdMode R (settleS md) := by
  have hd : ∀ ch : List (SV × Bool), (chD R ch).dropWhile (!·.goexit) = [] := fun ch => by
    induction ch with
    | nil => rfl
    | cons q ch ih => simpa [chD] using ih
  cases md with
  | none => rfl
  | some ch =>
    cases ch with
    | nil => rfl
    | cons q ch =>
      obtain ⟨v, b⟩ := q
      cases b with
      | false => rfl
      | true =>
        show (match (chD R ch).dropWhile (!·.goexit) with
          | [] => FrameMode.returning
          | rest => FrameMode.panicking rest) = _
        rw [hd]
        rfl
theorem settle_bel {N : Nat} {md : Md} (h : mdBel N md) : mdBel N (settleS md) := by
  cases md with
  | none => trivial
  | some ch =>
    cases ch with
    | nil => exact h
    | cons q ch =>
      obtain ⟨v, b⟩ := q
      cases b with
      | false => exact h
      | true => trivial
theorem raise_ok {md : Md} {ch : List (SV × Bool)} : raised (mdMode R md) (chD R ch) = mdMode R (raiseS md ch) := by
  cases md with
  | none => rfl
  | some old => simp [raised, mdMode, raiseS, chD]
theorem raise_bel {N : Nat} {md : Md} {ch : List (SV × Bool)} (h : mdBel N md) (hc : chBel N ch) : mdBel N (raiseS md ch) := by
  cases md with
  | none => exact hc
  | some old => exact fun q hq => (List.mem_append.1 hq).elim (hc q) (h q)

/-- The mark of a range over a function. -/
theorem mark_ok (h : Rel P R m w) {n : Nat} (hn : n < m.nxt) (hg : m.get n = .yes (.dfr true)) :
    ∃ w', (Instr.takeDeferred (R.b n)).run P w = .ok [] w' ∧ Post P R m w R (m.set n (.dfr false)) w' := by
  have hb : w.heap[R.b n]? = some (.deferred (some [])) := h.blk n _ hn hg
  have hlt : R.b n < w.heap.size := h.block_lt ⟨hn, by rw [hg]; exact fun e => by cases e⟩
  refine ⟨{ w with heap := w.heap.setIfInBounds (R.b n) (.deferred none) }, by simp [Instr.takeDeferred, getObj, setObj, Sem.run, bind, Sem.bind, hb, pure], ?_⟩
  refine h.upd hn (by rw [hg]; exact fun e => by cases e) _ _ trivial (by simp) (fun k hk => ?_) ?_
  · rw [Array.getElem?_setIfInBounds_ne (Ne.symm hk)]
  · show _ = _
    simp [hlt]

theorem leaveS_ok {E : EvF} (hN : NoGor P) (hD : DcallOK P E) {fn : Func} {N : Nat} {env : Env} {tmps : Array Value} {e : AEnd} {m' : Mem} {K : Ending → World → Prop} :
    ∀ (dfs : List (ADf ⊕ Nat)) (ds : List Deferred) (md : Md) (R : Rho) (m : Mem) (w : World), leaveS P E fn.results.toList N env dfs md m = some (e, m') → Rel P R m w → envOK R N m.nxt env tmps →
      dfsRel R m.nxt dfs ds → mdBel m.nxt md → (∀ e' w', EndOK P R m w e m' e' w' → K e' w') → LeavesInM Fence.wide 0 P fn tmps K ds (mdMode R md) w := by
  intro dfs
  induction dfs with
  | nil =>
    intro ds md R m w hs h he hd hm hK
    have : ds = [] := hd
    subst this
    simp only [leaveS] at hs
    cases md with
    | none =>
      simp only at hs
      cases hv : resV P env m N fn.results.toList with
      | none => rw [hv] at hs; cases hs
      | some v =>
        rw [hv] at hs
        simp only [Option.some.injEq, Prod.mk.injEq] at hs
        obtain ⟨rfl, rfl⟩ := hs
        obtain ⟨k1, k2⟩ := resV_ok h he hv
        exact ⟨_, k1, hK _ _ ⟨R, Post.refl h, rfl, k2⟩⟩
    | some ch =>
      simp only [Option.some.injEq, Prod.mk.injEq] at hs
      obtain ⟨rfl, rfl⟩ := hs
      exact hK _ _ ⟨R, Post.refl h, rfl, hm⟩
  | cons x l ih =>
    intro ds md R m w hs h he hd hm hK
    obtain ⟨y, k, rfl, hy, hk⟩ := hd
    refine ⟨by cases md <;> exact fun e => (by cases e), ?_⟩
    cases x with
    | inr n =>
      obtain ⟨hn, rfl⟩ := hy
      simp only [leaveS] at hs
      cases hg : m.get n with
      | no => rw [hg] at hs; cases hs
      | yes b =>
        cases b with
        | dfr o =>
          cases o with
          | false => rw [hg] at hs; cases hs
          | true =>
            rw [hg] at hs
            simp only at hs
            obtain ⟨w1, k1, k2⟩ := mark_ok h hn hg
            exact .inl ⟨_, w1, rfl, k1, ih k md R _ w1 hs k2.rel (he.ext k2.ext k2.nxt) (hk.ext k2.ext k2.nxt) hm fun e' w' ⟨R', p1, p2⟩ => hK _ _ ⟨R', k2.trans p1, p2⟩⟩
        | _ => rw [hg] at hs; cases hs
    | inl d =>
      obtain ⟨hb, cap, args, rfl, ha⟩ := hy
      simp only [leaveS] at hs
      cases hc : E.dcall d.fn d.args md m with
      | none => rw [hc] at hs; cases hs
      | some r =>
        obtain ⟨e1, md1, m1⟩ := r
        rw [hc] at hs
        obtain ⟨b1, b2⟩ := hD _ _ _ _ _ _ _ hc R w h hb hm
        refine .inr ⟨fun hh => (by cases hh), .func d.fn, cap, d.fn, args ++ cap, rfl, ?_, fun g _ => trivial, ?_⟩
        · show (callFunc d.fn (args ++ cap)).run P w = _
          exact hasBody_run hN b1 _ _
        · rw [ha]
          refine CallsDIn.mono b2 fun e' u' w' hh => ?_
          obtain ⟨R', p1, p2, rfl, p4⟩ := hh
          cases e1 with
          | ret v =>
            obtain ⟨rfl, p3⟩ := p2
            simp only at hs
            show LeavesInM _ _ _ _ _ _ _ (settle (mdMode R' md1)) w'
            rw [settle_ok]
            exact ih k (settleS md1) R' m1 w' hs p1.rel (he.ext p1.ext p1.nxt) (hk.ext p1.ext p1.nxt) (settle_bel p4) fun e2 w2 ⟨R2, q1, q2⟩ => hK _ _ ⟨R2, p1.trans q1, q2⟩
          | pan ch =>
            obtain ⟨rfl, p3⟩ := p2
            simp only at hs
            show LeavesInM _ _ _ _ _ _ _ (raised (mdMode R' md1) (chD R' ch)) w'
            rw [raise_ok]
            exact ih k (raiseS md1 ch) R' m1 w' hs p1.rel (he.ext p1.ext p1.nxt) (hk.ext p1.ext p1.nxt) (raise_bel p4 p3) fun e2 w2 ⟨R2, q1, q2⟩ => hK _ _ ⟨R2, p1.trans q1, q2⟩
end Go.Ev
