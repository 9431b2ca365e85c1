/- The evaluator: drawn regions: the run in the order of the text. The evaluator: drawn regions: what the run in the order of the text makes. The evaluator: drawn regions: what holds in any order. The evaluator: drawn regions: each kind of step, in any order. The evaluator: drawn regions in any order; every call that it answers is the model's. -/
import Derived.Test.YtadmeeabbkpmlaaGreatDoorVaf
set_option linter.unusedSimpArgs false
set_option linter.unusedVariables false
namespace Go.Ev
variable {P : Program} {R : Rho} {m : Mem} {w : World}

structure Run (P : Program) (ops : Array Oper) (N : Nat) (E : EvF) (e0 : Env) (m0 : Mem) where
  D : Nat → Dr
  V : Nat → SV
  zero : D 0 = ⟨e0, m0, m0, [], [], []⟩
  step : ∀ (i : Nat) (o : Oper), ops[i]? = some o → stepD P ops (befs ops.toList) N E o i (D i) = some (V i, D (i + 1))

theorem drawS_run {ops : Array Oper} {b : List Nat} {N : Nat} {E : EvF} : ∀ (l : List Oper) (i : Nat) (d : Dr) (q : Env × Mem), drawS P ops b N E l i d = some q →
    ∃ (D : Nat → Dr) (V : Nat → SV), D i = d ∧ (∀ j o, l[j]? = some o → stepD P ops b N E o (i + j) (D (i + j)) = some (V (i + j), D (i + j + 1))) ∧ ((D (i + l.length)).env, (D (i + l.length)).mem) = q
  | [], i, d, q, h => by
    simp only [drawS, Option.some.injEq] at h
    exact ⟨fun _ => d, fun _ => .und, rfl, fun j o ho => by simp at ho, h⟩
  | o :: l, i, d, q, h => by
    simp only [drawS] at h
    cases hs : stepD P ops b N E o i d with
    | none => rw [hs] at h; cases h
    | some r =>
      rw [hs] at h
      obtain ⟨D, V, h1, h2, h3⟩ := drawS_run l (i + 1) r.2 q h
      refine ⟨fun k => if k = i then d else D k, fun k => if k = i then r.1 else V k, if_pos rfl, fun j o' ho => ?_, ?_⟩
      · cases j with
        | zero =>
          simp only [List.getElem?_cons_zero, Option.some.injEq] at ho
          subst ho
          simp only [Nat.add_zero, if_true, if_neg (Nat.succ_ne_self i), hs, h1]
        | succ j =>
          simp only [List.getElem?_cons_succ] at ho
          have := h2 j o' ho
          have e1 : i + (j + 1) = i + 1 + j := by omega
          have n1 : ¬ i + 1 + j = i := by omega
          have n2 : ¬ i + 1 + j + 1 = i := by omega
          simp only [e1, if_neg n1, if_neg n2]
          exact this
      · have e1 : i + (o :: l).length = i + 1 + l.length := by simp; omega
        have n1 : ¬ i + 1 + l.length = i := by omega
        simp only [e1, if_neg n1]
        exact h3

theorem run_of {ops : Array Oper} {N : Nat} {E : EvF} {e0 : Env} {m0 : Mem} {q : Env × Mem} (h : drawS P ops (befs ops.toList) N E ops.toList 0 ⟨e0, m0, m0, [], [], []⟩ = some q) :
    ∃ T : Run P ops N E e0 m0, ((T.D ops.size).env, (T.D ops.size).mem) = q := by
  obtain ⟨D, V, h1, h2, h3⟩ := drawS_run _ _ _ _ h
  refine ⟨⟨D, V, h1, fun i o ho => ?_⟩, by simpa using h3⟩
  have := h2 i o (by simpa using ho)
  simpa using this

section
variable {ops : Array Oper} {N : Nat} {E : EvF} {e0 : Env} {m0 : Mem}

/-- Is it done? -/
noncomputable def Run.W (T : Run P ops N E e0 m0) (o : Oper) (i : Nat) : Bool := guardS N ops o (T.D i).env
noncomputable def Run.rho (T : Run P ops N E e0 m0) (i : Nat) : Operand → Option SV := fun x => opd P N x (T.D i).env

inductive Run.Step (T : Run P ops N E e0 m0) (i : Nat) (o : Oper) : Prop
  | skip (hw : T.W o i = false) (hv : T.V i = .und) (mem : (T.D (i + 1)).mem = (T.D i).mem) (base : (T.D (i + 1)).base = (T.D i).base) (olds : (T.D (i + 1)).olds = (T.D i).olds)
      (rds : (T.D (i + 1)).rds = (T.D i).rds) (als : (T.D (i + 1)).als = (T.D i).als)
  | pure (hw : T.W o i = true) (hc : clsOf P o.op = .pure) (hv : ∃ m', opS P o.op (T.rho i) (T.D i).mem = .val (T.V i) m') (mem : (T.D (i + 1)).mem = (T.D i).mem) (base : (T.D (i + 1)).base = (T.D i).base)
      (olds : (T.D (i + 1)).olds = (T.D i).olds) (rds : (T.D (i + 1)).rds = (T.D i).rds) (als : (T.D (i + 1)).als = (T.D i).als)
  | fresh (hw : T.W o i = true) (hc : clsOf P o.op = .fresh) (b : Blk) (hl : (T.D i).mem.nxt < 32768) (hv : ∀ M : Mem, M.nxt = (T.D i).mem.nxt → opS P o.op (T.rho i) M = .val (T.V i) (M.new b))
      (mem : (T.D (i + 1)).mem = (T.D i).mem.new b) (base : (T.D (i + 1)).base = (T.D i).base)
      (olds : (T.D (i + 1)).olds = (T.D i).olds) (rds : (T.D (i + 1)).rds = (T.D i).rds) (als : (T.D (i + 1)).als = (i, (T.D i).mem.nxt, (T.D (i + 1)).mem.nxt) :: (T.D i).als)
  | read (hw : T.W o i = true) (hc : clsOf P o.op = .read) (hv : ∃ m', opS P o.op (T.rho i) (T.D i).base = .val (T.V i) m') (mem : (T.D (i + 1)).mem = (T.D i).mem) (base : (T.D (i + 1)).base = (T.D i).base)
      (olds : (T.D (i + 1)).olds = (T.D i).olds) (rds : (T.D (i + 1)).rds = (i, o, (T.D i).env, T.V i) :: (T.D i).rds) (als : (T.D (i + 1)).als = (T.D i).als)
      (chk : ∀ q ∈ (T.D i).olds, hasB (befs ops.toList) i q.1 = true ∨ again P N o (T.D i).env (T.V i) q.2 = true)
  | loud (hw : T.W o i = true) (hc : clsOf P o.op = .loud) (hv : loudS P E o.op (T.rho i) (T.D i).mem = some (T.V i, (T.D (i + 1)).mem)) (base : (T.D (i + 1)).base = (T.D (i + 1)).mem)
      (olds : (T.D (i + 1)).olds = (i, (T.D i).base) :: (T.D i).olds) (rds : (T.D (i + 1)).rds = (T.D i).rds) (als : (T.D (i + 1)).als = (i, (T.D i).mem.nxt, (T.D (i + 1)).mem.nxt) :: (T.D i).als)
      (chk : ∀ r ∈ (T.D i).rds, hasB (befs ops.toList) i r.1 = true ∨ again P N r.2.1 r.2.2.1 r.2.2.2 (T.D (i + 1)).mem = true)

theorem Run.steps (T : Run P ops N E e0 m0) {i : Nat} {o : Oper} (ho : ops[i]? = some o) :
    T.Step i o ∧ (∃ e, putD N o.dst (T.V i) (T.D i).env = some e ∧ (T.D (i + 1)).env = e) ∧
      ∀ q ∈ (T.D i).als, hasB (befs ops.toList) i q.1 = true ∨ (T.V i).out q.2.1 q.2.2 = true ∧ (isFresh P o = true → OB.out q.2.1 q.2.2 ((T.D (i + 1)).mem.get (T.D i).mem.nxt) = true) := by
  have hs := T.step i o ho
  unfold stepD at hs
  cases hc : cond (guardS N ops o (T.D i).env) (runD P (befs ops.toList) N E o i (T.D i)) (some (SV.und, T.D i)) with
  | none => rw [hc] at hs; cases hs
  | some q =>
    obtain ⟨v, d'⟩ := q
    rw [hc] at hs
    simp only at hs
    cases hout : outD P (befs ops.toList) i o (T.D i) v d' with
    | false => rw [hout] at hs; cases hs
    | true =>
      rw [hout, cond_true] at hs
      cases hp : putD N o.dst v (T.D i).env with
      | none => rw [hp] at hs; cases hs
      | some e =>
        rw [hp] at hs
        simp only [Option.some.injEq, Prod.mk.injEq] at hs
        obtain ⟨hv, hD⟩ := hs
        subst hv
        have hmem : (T.D (i + 1)).mem = d'.mem := by rw [← hD]
        refine ⟨?_, ⟨e, hp, by rw [← hD]⟩, fun q hq => ?_⟩
        · cases hw : guardS N ops o (T.D i).env with
          | false =>
            rw [hw] at hc
            simp only [cond_false, Option.some.injEq, Prod.mk.injEq] at hc
            obtain ⟨hv, rfl⟩ := hc
            exact .skip hw hv.symm hmem (by rw [← hD]) (by rw [← hD]) (by rw [← hD]) (by rw [← hD])
          | true =>
            rw [hw, cond_true] at hc
            unfold runD at hc
            cases hcl : clsOf P o.op with
            | pure =>
              rw [hcl] at hc
              simp only at hc
              cases hx : opS P o.op (fun x => opd P N x (T.D i).env) (T.D i).mem with
              | val v' m' =>
                rw [hx] at hc
                simp only [Option.some.injEq, Prod.mk.injEq] at hc
                obtain ⟨rfl, rfl⟩ := hc
                exact .pure hw hcl ⟨m', hx⟩ hmem (by rw [← hD]) (by rw [← hD]) (by rw [← hD]) (by rw [← hD])
              | _ => rw [hx] at hc; cases hc
            | fresh =>
              rw [hcl] at hc
              simp only at hc
              cases hx : opS P o.op (fun x => opd P N x (T.D i).env) (T.D i).mem with
              | val v' m' =>
                rw [hx] at hc
                simp only [Option.some.injEq, Prod.mk.injEq] at hc
                obtain ⟨rfl, rfl⟩ := hc
                obtain ⟨k1, b, k2, k3⟩ := fresh_law hcl hx
                exact .fresh hw hcl b k1 k3 (by rw [hmem]; exact k2) (by rw [← hD]) (by rw [← hD]) (by rw [← hD]) (by rw [← hD])
              | _ => rw [hx] at hc; cases hc
            | read =>
              rw [hcl] at hc
              simp only at hc
              cases hx : opS P o.op (fun x => opd P N x (T.D i).env) (T.D i).base with
              | val v' m' =>
                rw [hx] at hc
                simp only at hc
                cases hall : ((T.D i).olds.all fun q => hasB (befs ops.toList) i q.1 || again P N o (T.D i).env v' q.2) with
                | false => rw [hall] at hc; cases hc
                | true =>
                  rw [hall] at hc
                  simp only [cond_true, Option.some.injEq, Prod.mk.injEq] at hc
                  obtain ⟨rfl, rfl⟩ := hc
                  refine .read hw hcl ⟨m', hx⟩ hmem (by rw [← hD]) (by rw [← hD]) (by rw [← hD]) (by rw [← hD]) fun q hq => ?_
                  have := (List.all_eq_true.1 hall) q hq
                  simpa using this
              | _ => rw [hx] at hc; cases hc
            | loud =>
              rw [hcl] at hc
              simp only at hc
              cases hx : loudS P E o.op (fun x => opd P N x (T.D i).env) (T.D i).mem with
              | none => rw [hx] at hc; cases hc
              | some q =>
                rw [hx] at hc
                simp only at hc
                cases hall : ((T.D i).rds.all fun r => hasB (befs ops.toList) i r.1 || again P N r.2.1 r.2.2.1 r.2.2.2 q.2) with
                | false => rw [hall] at hc; cases hc
                | true =>
                  rw [hall] at hc
                  simp only [cond_true, Option.some.injEq, Prod.mk.injEq] at hc
                  obtain ⟨hv, rfl⟩ := hc
                  have hm2 : (T.D (i + 1)).mem = q.2 := hmem
                  refine .loud hw hcl (by rw [hm2, ← hv]; exact hx) (by rw [hm2, ← hD]) (by rw [← hD]) (by rw [← hD]) (by rw [hm2, ← hD]) fun r hr => ?_
                  have := (List.all_eq_true.1 hall) r hr
                  rw [hm2]
                  simpa using this
        · unfold outD at hout
          have := (List.all_eq_true.1 hout) q hq
          simp only [Bool.or_eq_true, Bool.and_eq_true] at this
          refine this.imp id fun h => ⟨h.1, fun hf => ?_⟩
          have h2 := h.2
          rw [hf, cond_true] at h2
          rw [hmem]
          exact h2

theorem again_spec {o : Oper} {e : Env} {v : SV} {m : Mem} (h : again P N o e v m = true) : ∃ m', opS P o.op (fun x => opd P N x e) m = .val v m' := by
  unfold again at h
  cases hx : opS P o.op (fun x => opd P N x e) m with
  | val u m' =>
    rw [hx] at h
    rw [svEq_eq _ _ h]
    exact ⟨m', rfl⟩
  | _ => rw [hx] at h; cases h

theorem isFresh_iff {o : Oper} : isFresh P o = true ↔ clsOf P o.op = .fresh := by
  unfold isFresh
  cases clsOf P o.op <;> simp
theorem isLoud_iff {o : Oper} : isLoud P o = true ↔ clsOf P o.op = .loud := by
  unfold isLoud
  cases clsOf P o.op <;> simp

/-! ### What the lists hold -/
theorem Run.als_mem (T : Run P ops N E e0 m0) : ∀ (i : Nat), i ≤ ops.size → ∀ (j : Nat) (o : Oper), j < i → ops[j]? = some o → T.W o j = true → (clsOf P o.op = .fresh ∨ clsOf P o.op = .loud) →
    (j, (T.D j).mem.nxt, (T.D (j + 1)).mem.nxt) ∈ (T.D i).als
  | 0, _, j, _, h, _, _, _ => by omega
  | i + 1, hi, j, o, hj, ho, hw, hc => by
    obtain ⟨oi, hoi⟩ : ∃ oi, ops[i]? = some oi := ⟨ops[i], by simp [show i < ops.size by omega]⟩
    obtain ⟨hs, _, _⟩ := T.steps hoi
    by_cases hji : j = i
    · subst hji
      rw [ho] at hoi
      cases hoi
      cases hs with
      | skip hw' => rw [hw] at hw'; cases hw'
      | pure _ hc' => rcases hc with hc | hc <;> (rw [hc] at hc'; cases hc')
      | read _ hc' => rcases hc with hc | hc <;> (rw [hc] at hc'; cases hc')
      | fresh _ _ _ _ _ _ _ _ _ als => rw [als]; simp
      | loud _ _ _ _ _ _ als => rw [als]; simp
    · have ih := T.als_mem i (by omega) j o (by omega) ho hw hc
      cases hs with
      | skip _ _ _ _ _ _ als => rw [als]; exact ih
      | pure _ _ _ _ _ _ _ als => rw [als]; exact ih
      | read _ _ _ _ _ _ _ als => rw [als]; exact ih
      | fresh _ _ _ _ _ _ _ _ _ als => rw [als]; exact List.mem_cons_of_mem _ ih
      | loud _ _ _ _ _ _ als => rw [als]; exact List.mem_cons_of_mem _ ih
theorem Run.olds_mem (T : Run P ops N E e0 m0) : ∀ (i : Nat), i ≤ ops.size → ∀ (j : Nat) (o : Oper), j < i → ops[j]? = some o → T.W o j = true → clsOf P o.op = .loud →
    (j, (T.D j).base) ∈ (T.D i).olds
  | 0, _, j, _, h, _, _, _ => by omega
  | i + 1, hi, j, o, hj, ho, hw, hc => by
    obtain ⟨oi, hoi⟩ : ∃ oi, ops[i]? = some oi := ⟨ops[i], by simp [show i < ops.size by omega]⟩
    obtain ⟨hs, _, _⟩ := T.steps hoi
    by_cases hji : j = i
    · subst hji
      rw [ho] at hoi
      cases hoi
      cases hs with
      | skip hw' => rw [hw] at hw'; cases hw'
      | pure _ hc' => rw [hc] at hc'; cases hc'
      | read _ hc' => rw [hc] at hc'; cases hc'
      | fresh _ hc' => rw [hc] at hc'; cases hc'
      | loud _ _ _ _ olds => rw [olds]; simp
    · have ih := T.olds_mem i (by omega) j o (by omega) ho hw hc
      cases hs with
      | skip _ _ _ _ olds => rw [olds]; exact ih
      | pure _ _ _ _ _ olds => rw [olds]; exact ih
      | read _ _ _ _ _ olds => rw [olds]; exact ih
      | fresh _ _ _ _ _ _ _ olds => rw [olds]; exact ih
      | loud _ _ _ _ olds => rw [olds]; exact List.mem_cons_of_mem _ ih
theorem Run.rds_mem (T : Run P ops N E e0 m0) : ∀ (i : Nat), i ≤ ops.size → ∀ (j : Nat) (o : Oper), j < i → ops[j]? = some o → T.W o j = true → clsOf P o.op = .read →
    (j, o, (T.D j).env, T.V j) ∈ (T.D i).rds
  | 0, _, j, _, h, _, _, _ => by omega
  | i + 1, hi, j, o, hj, ho, hw, hc => by
    obtain ⟨oi, hoi⟩ : ∃ oi, ops[i]? = some oi := ⟨ops[i], by simp [show i < ops.size by omega]⟩
    obtain ⟨hs, _, _⟩ := T.steps hoi
    by_cases hji : j = i
    · subst hji
      rw [ho] at hoi
      cases hoi
      cases hs with
      | skip hw' => rw [hw] at hw'; cases hw'
      | pure _ hc' => rw [hc] at hc'; cases hc'
      | loud _ hc' => rw [hc] at hc'; cases hc'
      | fresh _ hc' => rw [hc] at hc'; cases hc'
      | read _ _ _ _ _ _ rds => rw [rds]; simp
    · have ih := T.rds_mem i (by omega) j o (by omega) ho hw hc
      cases hs with
      | skip _ _ _ _ _ rds => rw [rds]; exact ih
      | pure _ _ _ _ _ _ rds => rw [rds]; exact ih
      | read _ _ _ _ _ _ rds => rw [rds]; exact List.mem_cons_of_mem _ ih
      | fresh _ _ _ _ _ _ _ _ rds => rw [rds]; exact ih
      | loud _ _ _ _ _ rds => rw [rds]; exact ih

/-! ### The slots -/
theorem Run.env_none (T : Run P ops N E e0 m0) (hN : N ≤ 512) {t : Nat} (ht : t < N) : ∀ (i : Nat), i ≤ ops.size → (∀ (p : Nat) (o : Oper), p < i → ops[p]? = some o → o.dst ≠ some t) → (T.D i).env.get t = e0.get t
  | 0, _, _ => by rw [T.zero]
  | i + 1, hi, h => by
    obtain ⟨oi, hoi⟩ : ∃ oi, ops[i]? = some oi := ⟨ops[i], by simp [show i < ops.size by omega]⟩
    obtain ⟨_, ⟨e, k1, k2⟩, _⟩ := T.steps hoi
    have ih := T.env_none hN ht i (by omega) fun p o hp ho => h p o (by omega) ho
    have hd := h i oi (by omega) hoi
    rw [k2]
    cases hdd : oi.dst with
    | none =>
      rw [hdd] at k1
      simp only [putD, Option.some.injEq] at k1
      rw [← k1]; exact ih
    | some u =>
      rw [hdd] at k1 hd
      simp only [putD] at k1
      cases hu : Nat.blt u N with
      | false => rw [hu] at k1; cases k1
      | true =>
        rw [hu, cond_true, Option.some.injEq] at k1
        have hu' : u < N := by simpa using hu
        rw [← k1, Env.get_set _ _ (Nat.lt_of_lt_of_le hu' hN) (by omega), if_neg (fun e => hd (by rw [e]))]
        exact ih
theorem Run.env_some (T : Run P ops N E e0 m0) (hF : DrawFits P ops) (hN : N ≤ 512) {t : Nat} {p : Nat} {op : Oper} (hp : ops[p]? = some op) (hd : op.dst = some t) :
    t < N ∧ ∀ (i : Nat), i ≤ ops.size → p < i → (T.D i).env.get t = T.V p := by
  have htN : t < N := by
    obtain ⟨_, ⟨e, k1, _⟩, _⟩ := T.steps hp
    rw [hd] at k1
    simp only [putD] at k1
    cases hu : Nat.blt t N with
    | false => rw [hu] at k1; cases k1
    | true => simpa using hu
  refine ⟨htN, fun i => ?_⟩
  induction i with
  | zero => intro _ h; omega
  | succ i ih =>
    intro hi hpi
    obtain ⟨oi, hoi⟩ : ∃ oi, ops[i]? = some oi := ⟨ops[i], by simp [show i < ops.size by omega]⟩
    obtain ⟨_, ⟨e, k1, k2⟩, _⟩ := T.steps hoi
    rw [k2]
    by_cases hpe : p = i
    · subst hpe
      rw [hp] at hoi
      cases hoi
      rw [hd] at k1
      simp only [putD] at k1
      have hu : Nat.blt t N = true := by simpa using htN
      rw [hu, cond_true, Option.some.injEq] at k1
      rw [← k1, Env.get_set _ _ (by omega) (by omega), if_pos rfl]
    · have ih := ih (by omega) (by omega)
      have hne := hF.one i p oi op t hoi hp (fun e => hpe e.symm) hd
      cases hdd : oi.dst with
      | none =>
        rw [hdd] at k1
        simp only [putD, Option.some.injEq] at k1
        rw [← k1]; exact ih
      | some u =>
        rw [hdd] at k1 hne
        simp only [putD] at k1
        cases hu : Nat.blt u N with
        | false => rw [hu] at k1; cases k1
        | true =>
          rw [hu, cond_true, Option.some.injEq] at k1
          have hu' : u < N := by simpa using hu
          rw [← k1, Env.get_set _ _ (Nat.lt_of_lt_of_le hu' hN) (by omega), if_neg (fun e => hne (by rw [e]))]
          exact ih
end
end Go.Ev
namespace Go.Ev
variable {P : Program} {R : Rho} {m : Mem} {w : World}

theorem pure_at {op : Op} {ρ : Operand → Option SV} (hc : clsOf P op = .pure) {v : SV} (hv : ∃ m', opS P op ρ m = .val v m') (M : Mem) : opS P op ρ M = .val v M := by
  obtain ⟨m', hv⟩ := hv
  obtain ⟨o, ho⟩ := pure_law (P := P) (ρ := ρ) hc
  rw [ho m] at hv
  obtain ⟨rfl, _⟩ := vOf_eq hv
  exact ho M
theorem read_at {op : Op} {ρ : Operand → Option SV} (hc : clsOf P op = .read) {v : SV} {B : Mem} (hv : ∃ m', opS P op ρ B = .val v m') (n : Nat) : opS P op ρ ⟨n, B.t⟩ = .val v ⟨n, B.t⟩ := by
  obtain ⟨m', hv⟩ := hv
  obtain ⟨o, ho⟩ := read_law (P := P) (ρ := ρ) hc B.t
  have h1 := ho B.nxt
  rw [show (⟨B.nxt, B.t⟩ : Mem) = B from rfl, hv] at h1
  obtain ⟨rfl, _⟩ := vOf_eq h1.symm
  exact ho n

noncomputable def cact (R : Rho) (N : Nat) (e : Env) : Act := { tmps := (Array.range N).map fun t => den R (e.get t), defers := [] }
theorem cact_env {N M : Nat} {e : Env} (hN : N ≤ 512) (he : ∀ t, t < N → (e.get t).bel M) : envOK R N M e (cact R N e).tmps :=
  ⟨⟨by simp [cact], hN, fun t ht => by simp [cact, Array.getD_eq_getD_getElem?, ht]⟩, he⟩
theorem opd_of {N : Nat} {e : Env} (h : Rel P R m w) (hN : N ≤ 512) (he : ∀ t, t < N → (e.get t).bel m.nxt) : Opd R m.nxt (fun x => opd P N x e) (cact R N e).eval :=
  opd_ok h (cact_env hN he)
theorem putD_bel {N M : Nat} {e e' : Env} {d : Option Tmp} {v : SV} (hN : N ≤ 512) (he : ∀ t, t < N → (e.get t).bel M) (hv : v.bel M) (hp : putD N d v e = some e') : ∀ t, t < N → (e'.get t).bel M :=
  (putD_ok (R := ⟨id, id⟩) (a := cact ⟨id, id⟩ N e) (cact_env hN he) hv hp).2

section
variable {ops : Array Oper} {N : Nat} {E : EvF} {e0 : Env} {m0 : Mem}
def Run.loudAt (T : Run P ops N E e0 m0) (k : Nat) : Prop := ∃ o, ops[k]? = some o ∧ T.W o k = true ∧ clsOf P o.op = .loud
def Run.freshAt (T : Run P ops N E e0 m0) (j n : Nat) (b : Blk) : Prop := ∃ o, ops[j]? = some o ∧ T.W o j = true ∧ clsOf P o.op = .fresh ∧ n = (T.D j).mem.nxt ∧ (T.D (j + 1)).mem.get n = .yes b

structure Can (T : Run P ops N E e0 m0) (R0 : Rho) (w0 : World) (i : Nat) : Prop where
  ex : ∃ R w, Post P R0 m0 w0 R (T.D i).mem w
  env : ∀ t, t < N → ((T.D i).env.get t).bel (T.D i).mem.nxt
  bn : (T.D i).base.nxt ≤ (T.D i).mem.nxt
  bm : m0.nxt ≤ (T.D i).base.nxt
  bsub : ∀ n b, n < (T.D i).base.nxt → (T.D i).base.get n = .yes b → (T.D i).mem.get n = .yes b
  bok : ∀ n b, n < (T.D i).base.nxt → (T.D i).base.get n = .yes b → b.ok (T.D i).base.nxt
  btop : ∀ n, (T.D i).base.nxt ≤ n → n < 32768 → (T.D i).base.get n = .no
  spec : ∀ n b, n < (T.D i).mem.nxt → (T.D i).mem.get n = .yes b → (n < (T.D i).base.nxt ∧ (T.D i).base.get n = .yes b) ∨
    ∃ j, j < i ∧ T.freshAt j n b ∧ ∀ k, j < k → k < i → ¬ T.loudAt k

theorem can_zero (T : Run P ops N E e0 m0) {R0 : Rho} {w0 : World} (h : Rel P R0 m0 w0) (he : ∀ t, t < N → (e0.get t).bel m0.nxt) : Can T R0 w0 0 := by
  have hD := T.zero
  constructor
  · rw [hD]; exact ⟨R0, w0, Post.refl h⟩
  · rw [hD]; exact he
  · rw [hD]; exact Nat.le_refl _
  · rw [hD]; exact Nat.le_refl _
  · rw [hD]; exact fun n b _ h => h
  · rw [hD]; exact h.ok
  · rw [hD]; exact h.top
  · rw [hD]; exact fun n b h1 h2 => .inl ⟨h1, h2⟩

theorem can_step (T : Run P ops N E e0 m0) (hC : CallOK P E) (hRd : RoundOK P E) (hN : N ≤ 512) {R0 : Rho} {w0 : World} {i : Nat} (h : Can T R0 w0 i) {o : Oper} (ho : ops[i]? = some o) :
    Can T R0 w0 (i + 1) ∧ (T.V i).bel (T.D (i + 1)).mem.nxt ∧ (T.D i).mem.nxt ≤ (T.D (i + 1)).mem.nxt := by
  obtain ⟨hs, ⟨e, hp, hee⟩, _⟩ := T.steps ho
  obtain ⟨R, w, hP⟩ := h.ex
  have notLoud : clsOf P o.op ≠ .loud ∨ T.W o i = false → ¬ T.loudAt i := by
    rintro hx ⟨o', ho', hw', hc'⟩
    rw [ho] at ho'
    cases ho'
    rcases hx with hx | hx
    · exact hx hc'
    · rw [hx] at hw'; cases hw'
  -- the cases in which no block is made or changed
  have same : (T.D (i + 1)).mem = (T.D i).mem → (T.D (i + 1)).base = (T.D i).base → ¬ T.loudAt i → (T.V i).bel (T.D i).mem.nxt →
      Can T R0 w0 (i + 1) ∧ (T.V i).bel (T.D (i + 1)).mem.nxt ∧ (T.D i).mem.nxt ≤ (T.D (i + 1)).mem.nxt := by
    intro hm hb hl hv
    have henv : ∀ t, t < N → ((T.D (i + 1)).env.get t).bel (T.D i).mem.nxt := by rw [hee]; exact putD_bel hN h.env hv hp
    refine ⟨⟨by rw [hm]; exact h.ex, by rw [hm]; exact henv, by rw [hm, hb]; exact h.bn, by rw [hb]; exact h.bm, by rw [hm, hb]; exact h.bsub, by rw [hb]; exact h.bok, by rw [hb]; exact h.btop, ?_⟩, by rw [hm]; exact hv, by rw [hm]; exact Nat.le_refl _⟩
    rw [hm, hb]
    intro n b hn hg
    rcases h.spec n b hn hg with h1 | ⟨j, h1, h2, h3⟩
    · exact .inl h1
    · refine .inr ⟨j, by omega, h2, fun k hk hk2 => ?_⟩
      by_cases hki : k = i
      · subst hki; exact hl
      · exact h3 k hk (by omega)
  cases hs with
  | skip hw hv mem base => exact same mem base (notLoud (.inr hw)) (by rw [hv]; trivial)
  | pure hw hc hv mem base =>
    have hx := pure_at hc hv (T.D i).mem
    obtain ⟨R', w', _, _, k3⟩ := op_val hP.rel (opd_of hP.rel hN h.env) hx
    exact same mem base (notLoud (.inl (by rw [hc]; exact fun e => by cases e))) k3
  | read hw hc hv mem base =>
    have hx := read_at hc hv (T.D i).mem.nxt
    have hrel : Rel P R ⟨(T.D i).mem.nxt, (T.D i).base.t⟩ w := by
      have hlim := hP.rel.lim
      refine hP.rel.part (Nat.le_refl _) hP.rel.gl (fun n b hn hg => ?_) (fun n b hn hg => ?_) (fun n hn hn2 => ?_)
      · rcases Nat.lt_or_ge n (T.D i).base.nxt with hlt | hge
        · exact h.bsub n b hlt hg
        · have : (T.D i).base.get n = .no := h.btop n hge (by have : n < (T.D i).mem.nxt := hn; omega)
          rw [show (⟨(T.D i).mem.nxt, (T.D i).base.t⟩ : Mem).get n = (T.D i).base.get n from rfl, this] at hg
          cases hg
      · rcases Nat.lt_or_ge n (T.D i).base.nxt with hlt | hge
        · exact Blk.ok_mono h.bn (h.bok n b hlt hg)
        · have : (T.D i).base.get n = .no := h.btop n hge (by have : n < (T.D i).mem.nxt := hn; omega)
          rw [show (⟨(T.D i).mem.nxt, (T.D i).base.t⟩ : Mem).get n = (T.D i).base.get n from rfl, this] at hg
          cases hg
      · exact h.btop n (Nat.le_trans h.bn hn) hn2
    obtain ⟨R', w', _, _, k3⟩ := op_val hrel (opd_of hrel hN h.env) hx
    exact same mem base (notLoud (.inl (by rw [hc]; exact fun e => by cases e))) k3
  | fresh hw hc b hl hv mem base =>
    obtain ⟨R', w', _, k2, k3⟩ := op_val hP.rel (opd_of hP.rel hN h.env) (hv _ rfl)
    have hnx : ((T.D i).mem.new b).nxt = (T.D i).mem.nxt + 1 := rfl
    have henv : ∀ t, t < N → ((T.D (i + 1)).env.get t).bel ((T.D i).mem.new b).nxt := by
      rw [hee]
      exact putD_bel hN (fun t ht => SV.bel_mono k2.nxt _ (h.env t ht)) k3 hp
    have hbn := h.bn
    refine ⟨⟨by rw [mem]; exact ⟨R', w', hP.trans k2⟩, by rw [mem]; exact henv, by rw [mem, base, hnx]; omega, by rw [base]; exact h.bm, ?_, by rw [base]; exact h.bok, by rw [base]; exact h.btop, ?_⟩, by rw [mem]; exact k3, by rw [mem, hnx]; omega⟩
    · rw [mem, base]
      intro n b' hn hg
      rw [Mem.get_new b hl (by omega), if_neg (by omega)]
      exact h.bsub n b' hn hg
    · rw [base]
      intro n b' hn hg
      rw [mem] at hn hg
      rw [Mem.get_new b hl (by rw [hnx] at hn; omega)] at hg
      by_cases hne : (T.D i).mem.nxt = n
      · rw [if_pos hne] at hg
        refine .inr ⟨i, by omega, ⟨o, ho, hw, hc, hne.symm, ?_⟩, fun k hk hk2 => by omega⟩
        rw [mem, Mem.get_new b hl (by rw [hnx] at hn; omega), if_pos hne]
        exact hg
      · rw [if_neg hne] at hg
        rcases h.spec n b' (by rw [hnx] at hn; omega) hg with h1 | ⟨j, h1, h2, h3⟩
        · exact .inl h1
        · refine .inr ⟨j, by omega, h2, fun k hk hk2 => ?_⟩
          by_cases hki : k = i
          · subst hki; exact notLoud (.inl (by rw [hc]; exact fun e => by cases e))
          · exact h3 k hk (by omega)
  | loud hw hc hv base =>
    obtain ⟨R', w', k2, k3⟩ := loud_step hC hRd hP.rel (opd_of hP.rel hN h.env) hv
    have henv : ∀ t, t < N → ((T.D (i + 1)).env.get t).bel (T.D (i + 1)).mem.nxt := by
      rw [hee]
      exact putD_bel hN (fun t ht => SV.bel_mono k2.nxt _ (h.env t ht)) k3 hp
    have := h.bn
    have := h.bm
    have := k2.nxt
    refine ⟨⟨⟨R', w', hP.trans k2⟩, henv, by rw [base]; exact Nat.le_refl _, by rw [base]; omega, by rw [base]; exact fun n b _ hg => hg, by rw [base]; exact k2.rel.ok, by rw [base]; exact k2.rel.top, ?_⟩, k3, k2.nxt⟩
    rw [base]
    exact fun n b hn hg => .inl ⟨hn, hg⟩

theorem can_all (T : Run P ops N E e0 m0) (hC : CallOK P E) (hRd : RoundOK P E) (hN : N ≤ 512) {R0 : Rho} {w0 : World} (h : Rel P R0 m0 w0) (he : ∀ t, t < N → (e0.get t).bel m0.nxt) :
    ∀ i, i ≤ ops.size → Can T R0 w0 i
  | 0, _ => can_zero T h he
  | i + 1, hi => (can_step T hC hRd hN (can_all T hC hRd hN h he i (by omega)) (show ops[i]? = some ops[i] by simp [show i < ops.size by omega])).1

/-- All that is told of the run in the order of the text. -/
structure Canon (T : Run P ops N E e0 m0) (R0 : Rho) (w0 : World) : Prop where
  can : ∀ i, i ≤ ops.size → Can T R0 w0 i
  v : ∀ i, i < ops.size → (T.V i).bel (T.D (i + 1)).mem.nxt
  mono : ∀ i j, i ≤ j → j ≤ ops.size → (T.D i).mem.nxt ≤ (T.D j).mem.nxt
  base : ∀ i j, i ≤ j → j ≤ ops.size → (∀ k, i ≤ k → k < j → ¬ T.loudAt k) → (T.D j).base = (T.D i).base

theorem canon (T : Run P ops N E e0 m0) (hC : CallOK P E) (hRd : RoundOK P E) (hN : N ≤ 512) {R0 : Rho} {w0 : World} (h : Rel P R0 m0 w0) (he : ∀ t, t < N → (e0.get t).bel m0.nxt) : Canon T R0 w0 := by
  have hcan := can_all T hC hRd hN h he
  have hop : ∀ i, i < ops.size → ops[i]? = some ops[i]! := fun i hi => by simp [hi]
  refine ⟨hcan, fun i hi => (can_step T hC hRd hN (hcan i (by omega)) (hop i hi)).2.1, fun i j hij => ?_, fun i j hij => ?_⟩
  · induction j with
    | zero => intro _; rw [show i = 0 by omega]; exact Nat.le_refl _
    | succ j ih =>
      intro hj
      by_cases hie : i = j + 1
      · rw [hie]; exact Nat.le_refl _
      · exact Nat.le_trans (ih (by omega) (by omega)) (can_step T hC hRd hN (hcan j (by omega)) (hop j (by omega))).2.2
  · induction j with
    | zero => intro _ _; rw [show i = 0 by omega]
    | succ j ih =>
      intro hj hk
      by_cases hie : i = j + 1
      · rw [hie]
      · rw [← ih (by omega) (by omega) fun k h1 h2 => hk k h1 (by omega)]
        have hn := hk j (by omega) (by omega)
        obtain ⟨hs, _, _⟩ := T.steps (hop j (by omega))
        cases hs with
        | skip _ _ _ base => exact base
        | pure _ _ _ _ base => exact base
        | read _ _ _ _ base => exact base
        | fresh _ _ _ _ _ _ base => exact base
        | loud hw hc => exact absurd ⟨_, hop j (by omega), hw, hc⟩ hn
end
end Go.Ev
namespace Go.Ev
variable {P : Program} {R : Rho} {m : Mem} {w : World}
section
variable {ops : Array Oper} {N : Nat} {E : EvF} {e0 : Env} {m0 : Mem}

structure Inv (T : Run P ops N E e0 m0) (R0 : Rho) (w0 : World) (a0 : Act) (L : Nat → Prop) (a : Act) (w : World) (R : Rho) (M : Mem) (c : Nat) : Prop where
  post : Post P R0 m0 w0 R M w
  nxt : M.nxt = (T.D ops.size).mem.nxt
  cl : c ≤ ops.size
  cut : ∀ k, T.loudAt k → (L k ↔ k < c)
  spec : ∀ x b, x < M.nxt → M.get x = .yes b → (x < (T.D c).base.nxt ∧ (T.D c).base.get x = .yes b) ∨ ∃ j, L j ∧ T.freshAt j x b ∧ ∀ k, T.loudAt k → k < c → k < j
  sbase : ∀ x b, x < (T.D c).base.nxt → (T.D c).base.get x = .yes b → M.get x = .yes b
  sfresh : ∀ x b j, L j → T.freshAt j x b → (∀ k, T.loudAt k → k < c → k < j) → M.get x = .yes b
  size : a.tmps.size = N
  c1 : ∀ (p : Nat) (o : Oper) (t : Tmp), ops[p]? = some o → L p → o.dst = some t → a.tmps.getD t undef = den R (T.V p)
  c2 : ∀ t : Tmp, t < N → (∀ (p : Nat) (o : Oper), ops[p]? = some o → L p → o.dst ≠ some t) → a.tmps.getD t undef = den R (e0.get t)
  dfr : a.defers = a0.defers
  closed : Closed ops L

/-- Number i may come up next. -/
structure Next (ops : Array Oper) (L : Nat → Prop) (i : Nat) (o : Oper) : Prop where
  at_ : ops[i]? = some o
  not : ¬ L i
  edges : ∀ e ∈ o.after, Region.binds .any e = true → L e.on
theorem Next.lt {L : Nat → Prop} {i : Nat} {o : Oper} (h : Next ops L i o) : i < ops.size := (Array.getElem?_eq_some_iff.1 h.at_).1
theorem Next.bef {L : Nat → Prop} {i : Nat} {o : Oper} (h : Next ops L i o) (hc : Closed ops L) {j : Nat} (hb : hasB (befs ops.toList) i j = true) : L j :=
  closed_hasB hc i j (fun o' ho' => by rw [h.at_] at ho'; cases ho'; exact h.edges) hb
theorem Next.notBef {L : Nat → Prop} {i : Nat} {o : Oper} (h : Next ops L i o) (hc : Closed ops L) {j : Nat} (hj : L j) : hasB (befs ops.toList) j i = true → False := fun hb =>
  h.not (closed_hasB hc j i (fun o' ho' => hc j o' hj ho') hb)
theorem Next.closed {L : Nat → Prop} {i : Nat} {o : Oper} (h : Next ops L i o) (hc : Closed ops L) : Closed ops (fun p => L p ∨ p = i) := fun p o' hp ho' e he hb => by
  rcases hp with hp | rfl
  · exact .inl (hc p o' hp ho' e he hb)
  · rw [h.at_] at ho'; cases ho'; exact .inl (h.edges e he hb)

variable {T : Run P ops N E e0 m0} {R0 : Rho} {w0 : World} {a0 a : Act} {L : Nat → Prop} {M : Mem} {c i : Nat} {o : Oper}

/-- The slots that the next operation looks at. -/
theorem Inv.slot (h : Inv T R0 w0 a0 L a w R M c) (hF : DrawFits P ops) (hN : N ≤ 512) (hn : Next ops L i o) {t : Tmp} (ht : t < N) (hl : t ∈ o.looksAt ops) : a.tmps.getD t undef = den R ((T.D i).env.get t) := by
  have hi := hn.lt
  by_cases hw : ∃ (p : Nat) (q : Oper), ops[p]? = some q ∧ q.dst = some t
  · obtain ⟨p, q, hp, hd⟩ := hw
    have uniq : ∀ (p' : Nat) (q' : Oper), ops[p']? = some q' → q'.dst = some t → p' = p := fun p' q' hp' hd' => by
      by_cases he : p' = p
      · exact he
      · exact absurd hd' (hF.one p' p q' q t hp' hp he hd)
    by_cases hpi : i = p
    · subst hpi
      rw [h.c2 t ht fun p' q' hp' hL' hd' => hn.not (uniq p' q' hp' hd' ▸ hL'), T.env_none hN ht i (by omega) fun p' q' hlt hp' hd' => by have := uniq p' q' hp' hd'; omega]
    · rcases hF.look i p o q t hn.at_ hp hpi hd hl with hb | hb
      · have hLp := hn.bef h.closed hb
        rw [h.c1 p q t hp hLp hd, (T.env_some hF hN hp hd).2 i (by omega) (hF.lt _ _ hb)]
      · have hLp : ¬ L p := fun hL => hn.notBef h.closed hL hb
        have hip := hF.lt _ _ hb
        rw [h.c2 t ht fun p' q' hp' hL' hd' => hLp (uniq p' q' hp' hd' ▸ hL'), T.env_none hN ht i (by omega) fun p' q' hlt hp' hd' => by have := uniq p' q' hp' hd'; omega]
  · rw [h.c2 t ht fun p' q' hp' _ hd' => hw ⟨p', q', hp', hd'⟩, T.env_none hN ht i (by omega) fun p' q' _ hp' hd' => hw ⟨p', q', hp', hd'⟩]

theorem cact_get {e : Env} {t : Nat} (ht : t < N) : (cact R N e).tmps.getD t undef = den R (e.get t) := by simp [cact, Array.getD_eq_getD_getElem?, ht]
theorem cact_size {e : Env} : (cact R N e).tmps.size = N := by simp [cact]

theorem Inv.eval (h : Inv T R0 w0 a0 L a w R M c) (hF : DrawFits P ops) (hN : N ≤ 512) (hn : Next ops L i o) : ∀ x ∈ o.op.operands, a.eval x = (cact R N (T.D i).env).eval x := by
  intro x hx
  cases x with
  | tmp t =>
    show a.tmps.getD t undef = (cact R N (T.D i).env).tmps.getD t undef
    by_cases ht : t < N
    · rw [cact_get ht]
      refine h.slot hF hN hn ht ?_
      unfold Oper.looksAt
      exact List.mem_append_left _ (List.mem_filterMap.2 ⟨.tmp t, by simpa using hx, rfl⟩)
    · rw [Array.getD_eq_getD_getElem?, Array.getD_eq_getD_getElem?, Array.getElem?_eq_none (by rw [h.size]; exact Nat.le_of_not_lt ht), Array.getElem?_eq_none (by rw [cact_size]; exact Nat.le_of_not_lt ht)]
  | _ => rfl

theorem wanted_of {o : Oper} {t1 t2 : Array Value} (hs : t1.size = t2.size) (h : ∀ t : Tmp, t ∈ o.looksAt ops → t < t1.size → t1.getD t undef = t2.getD t undef) :
    Region.wanted o (yielded ops t1) = Region.wanted o (yielded ops t2) := by
  unfold Region.wanted
  cases hg : o.guard with
  | none => rfl
  | some g =>
    obtain ⟨j, b⟩ := g
    simp only
    have : yielded ops t1 j = yielded ops t2 j := by
      unfold yielded
      cases hd : (ops[j]?).bind (·.dst) with
      | none => rfl
      | some t =>
        simp only [Option.bind_some]
        have hlk : t ∈ o.looksAt ops := by
          unfold Oper.looksAt
          rw [hg]
          exact List.mem_append_right _ (by simp [hd])
        have : t1[t]? = t2[t]? := by
          by_cases ht : t < t1.size
          · have h1 := h t hlk ht
            have ht2 : t < t2.size := hs ▸ ht
            rw [Array.getD_eq_getD_getElem?, Array.getD_eq_getD_getElem?, Array.getElem?_eq_getElem ht, Array.getElem?_eq_getElem ht2] at h1
            rw [Array.getElem?_eq_getElem ht, Array.getElem?_eq_getElem ht2]
            simpa using h1
          · rw [Array.getElem?_eq_none (Nat.le_of_not_lt ht), Array.getElem?_eq_none (hs ▸ Nat.le_of_not_lt ht)]
        rw [this]
    rw [this]

theorem Inv.wanted (h : Inv T R0 w0 a0 L a w R M c) (hF : DrawFits P ops) (hN : N ≤ 512) (hn : Next ops L i o) (hcan : Can T R0 w0 i) : Region.wanted o (yielded ops a.tmps) = T.W o i := by
  unfold Run.W
  rw [guardS_ok (cact_env (R := R) hN hcan.env) ops o]
  refine wanted_of (by rw [h.size, cact_size]) fun t hl ht => ?_
  rw [h.size] at ht
  rw [cact_get ht]
  exact h.slot hF hN hn ht hl

/-- Number i has come up. -/
theorem Inv.put (h : Inv T R0 w0 a0 L a w R M c) (hF : DrawFits P ops) (hn : Next ops L i o) {R2 : Rho} {M2 : Mem} {w2 : World} {c2 : Nat}
    (hv : ∀ p, L p → p < ops.size → den R2 (T.V p) = den R (T.V p)) (he : ∀ t, t < N → den R2 (e0.get t) = den R (e0.get t))
    (post : Post P R0 m0 w0 R2 M2 w2) (nxt : M2.nxt = M.nxt) (cl : c2 ≤ ops.size) (cut : ∀ k, T.loudAt k → (L k ∨ k = i ↔ k < c2))
    (spec : ∀ x b, x < M2.nxt → M2.get x = .yes b → (x < (T.D c2).base.nxt ∧ (T.D c2).base.get x = .yes b) ∨ ∃ j, (L j ∨ j = i) ∧ T.freshAt j x b ∧ ∀ k, T.loudAt k → k < c2 → k < j)
    (sbase : ∀ x b, x < (T.D c2).base.nxt → (T.D c2).base.get x = .yes b → M2.get x = .yes b)
    (sfresh : ∀ x b j, (L j ∨ j = i) → T.freshAt j x b → (∀ k, T.loudAt k → k < c2 → k < j) → M2.get x = .yes b) :
    Inv T R0 w0 a0 (fun p => L p ∨ p = i) (a.put o.dst (den R2 (T.V i))) w2 R2 M2 c2 := by
  have hlen : (a.put o.dst (den R2 (T.V i))).tmps.size = N := by
    cases hd : o.dst with
    | none => exact h.size
    | some t => simp [Act.put, h.size]
  have hother : ∀ t : Tmp, o.dst ≠ some t → (a.put o.dst (den R2 (T.V i))).tmps.getD t undef = a.tmps.getD t undef := by
    intro t ht
    cases hd : o.dst with
    | none => rfl
    | some u =>
      have hne : u ≠ t := fun e => ht (by rw [hd, e])
      simp [Act.put, Array.getD_eq_getD_getElem?, Array.getElem?_setIfInBounds, hne]
  refine ⟨post, nxt.trans h.nxt, cl, cut, spec, sbase, sfresh, hlen, fun p q t hp hL hd => ?_, fun t ht hno => ?_, ?_, hn.closed h.closed⟩
  · by_cases hpi : p = i
    · subst hpi
      rw [hn.at_] at hp
      cases hp
      obtain ⟨_, ⟨e, k1, _⟩, _⟩ := T.steps hn.at_
      rw [hd] at k1
      simp only [putD] at k1
      have ht : t < N := by
        cases hu : Nat.blt t N with
        | false => rw [hu] at k1; cases k1
        | true => simpa using hu
      have ht2 : t < a.tmps.size := by rw [h.size]; exact ht
      rw [hd]
      simp [Act.put, Array.getD_eq_getD_getElem?, Array.getElem?_setIfInBounds, ht2]
    · have hLp : L p := hL.resolve_right hpi
      rw [hother t (hF.one i p o q t hn.at_ hp (fun e => hpi e.symm) hd), h.c1 p q t hp hLp hd, hv p hLp (Array.getElem?_eq_some_iff.1 hp).1]
  · rw [hother t (hno i o hn.at_ (.inr rfl)), h.c2 t ht fun p q hp hL => hno p q hp (.inl hL), he t ht]
  · cases hd : o.dst with
    | none => exact h.dfr
    | some t => exact h.dfr

/-- Where no block is made. -/
theorem Inv.quiet (h : Inv T R0 w0 a0 L a w R M c) (hF : DrawFits P ops) (hn : Next ops L i o) {R2 : Rho} {w2 : World} (hl : ¬ T.loudAt i) (hfr : ∀ x b, ¬ T.freshAt i x b)
    (hK : Canon T R0 w0) (hE0 : ∀ t, t < N → (e0.get t).bel m0.nxt) (hext : R.ext R2 M.nxt) (post : Post P R0 m0 w0 R2 M w2) :
    Inv T R0 w0 a0 (fun p => L p ∨ p = i) (a.put o.dst (den R2 (T.V i))) w2 R2 M c := by
  refine h.put hF hn (fun p hL hp => den_ext hext _ ?_) (fun t ht => den_ext hext _ (SV.bel_mono h.post.nxt _ (hE0 t ht))) post rfl h.cl (fun k hk => ?_) (fun x b hx hg => ?_) h.sbase (fun x b j hL hf hk => ?_)
  · rw [h.nxt]
    exact SV.bel_mono (hK.mono (p + 1) ops.size (by omega) (Nat.le_refl _)) _ (hK.v p hp)
  · rw [← h.cut k hk]
    exact ⟨fun hh => hh.resolve_right fun e => hl (e ▸ hk), .inl⟩
  · rcases h.spec x b hx hg with h1 | ⟨j, h1, h2⟩
    · exact .inl h1
    · exact .inr ⟨j, .inl h1, h2⟩
  · exact h.sfresh x b j (hL.resolve_right fun e => hfr x b (e ▸ hf)) hf hk
end
end Go.Ev
namespace Go.Ev
variable {P : Program} {R : Rho} {m : Mem} {w : World}
section
variable {ops : Array Oper} {N : Nat} {E : EvF} {e0 : Env} {m0 : Mem} {T : Run P ops N E e0 m0} {R0 : Rho} {w0 : World} {a0 a : Act} {L : Nat → Prop} {M : Mem} {c i : Nat} {o : Oper}

theorem notLoud_of (ho : ops[i]? = some o) (hx : clsOf P o.op ≠ .loud ∨ T.W o i = false) : ¬ T.loudAt i := by
  rintro ⟨o', ho', hw', hc'⟩
  rw [ho] at ho'
  cases ho'
  rcases hx with hx | hx
  · exact hx hc'
  · rw [hx] at hw'; cases hw'
theorem notFresh_of (ho : ops[i]? = some o) (hx : clsOf P o.op ≠ .fresh ∨ T.W o i = false) : ∀ x b, ¬ T.freshAt i x b := by
  rintro x b ⟨o', ho', hw', hc', _⟩
  rw [ho] at ho'
  cases ho'
  rcases hx with hx | hx
  · exact hx hc'
  · rw [hx] at hw'; cases hw'

theorem sel_of {op : Op} {v : SV} {ρ : Operand → Option SV} {m m' : Mem} (h : opS P op ρ m = .val v m') : ∀ cs b, op ≠ .select cs b := by
  rintro cs b rfl
  cases h

/-- A reading at the memory that lies there: the one that the run saw. -/
theorem read_down (ho : ops[i]? = some o) (hw : T.W o i = true) (hc : clsOf P o.op = .read) (hi : i < ops.size) (hK : Canon T R0 w0) (hv : ∃ m', opS P o.op (T.rho i) (T.D i).base = .val (T.V i) m') :
    ∀ d c, c + d = i → (∀ k, c ≤ k → k < i → T.loudAt k → hasB (befs ops.toList) i k = true → False) → ∃ m', opS P o.op (T.rho i) (T.D c).base = .val (T.V i) m' := by
  intro d
  induction d with
  | zero => intro c hcd _; rw [show c = i by omega]; exact hv
  | succ d ih =>
    intro c hcd hno
    by_cases hl : T.loudAt c
    · obtain ⟨oc, hoc, hwc, hcc⟩ := hl
      obtain ⟨hs, _, _⟩ := T.steps ho
      have hm := T.olds_mem i (by omega) c oc (by omega) hoc hwc hcc
      cases hs with
      | read _ _ _ _ _ _ _ _ chk =>
        rcases chk _ hm with h1 | h1
        · exact (hno c (by omega) (by omega) ⟨oc, hoc, hwc, hcc⟩ h1).elim
        · exact again_spec h1
      | skip hw' => rw [hw] at hw'; cases hw'
      | pure _ hc' => rw [hc] at hc'; cases hc'
      | fresh _ hc' => rw [hc] at hc'; cases hc'
      | loud _ hc' => rw [hc] at hc'; cases hc'
    · have := ih (c + 1) (by omega) fun k hk => hno k (by omega)
      rw [hK.base c (c + 1) (by omega) (by omega) fun k h1 h2 => by rw [show k = c by omega]; exact hl] at this
      exact this
theorem read_up (ho : ops[i]? = some o) (hw : T.W o i = true) (hc : clsOf P o.op = .read) (hK : Canon T R0 w0) (hv : ∃ m', opS P o.op (T.rho i) (T.D i).base = .val (T.V i) m') :
    ∀ d, i + d ≤ ops.size → (∀ k, i < k → k < i + d → T.loudAt k → hasB (befs ops.toList) k i = true → False) → ∃ m', opS P o.op (T.rho i) (T.D (i + d)).base = .val (T.V i) m' := by
  intro d
  induction d with
  | zero => intro _ _; exact hv
  | succ d ih =>
    intro hd hno
    by_cases hl : T.loudAt (i + d)
    · obtain ⟨oc, hoc, hwc, hcc⟩ := hl
      have hne : d ≠ 0 := fun e => by
        subst e
        rw [Nat.add_zero, ho] at hoc
        cases hoc
        rw [hc] at hcc; cases hcc
      obtain ⟨hs, _, _⟩ := T.steps hoc
      have hm := T.rds_mem (i + d) (by omega) i o (by omega) ho hw hc
      cases hs with
      | loud _ _ _ base _ _ _ chk =>
        rcases chk _ hm with h1 | h1
        · exact (hno (i + d) (by omega) (by omega) ⟨oc, hoc, hwc, hcc⟩ h1).elim
        · rw [show i + (d + 1) = i + d + 1 by omega, base]
          exact again_spec h1
      | skip hw' => rw [hwc] at hw'; cases hw'
      | pure _ hc' => rw [hcc] at hc'; cases hc'
      | fresh _ hc' => rw [hcc] at hc'; cases hc'
      | read _ hc' => rw [hcc] at hc'; cases hc'
    · have := ih (by omega) fun k hk hk2 => hno k hk (by omega)
      rw [show i + (d + 1) = i + d + 1 by omega, hK.base (i + d) (i + d + 1) (by omega) (by omega) fun k h1 h2 => by rw [show k = i + d by omega]; exact hl]
      exact this
theorem Inv.read (h : Inv T R0 w0 a0 L a w R M c) (hn : Next ops L i o) (hw : T.W o i = true) (hc : clsOf P o.op = .read) (hK : Canon T R0 w0)
    (hv : ∃ m', opS P o.op (T.rho i) (T.D i).base = .val (T.V i) m') : ∃ m', opS P o.op (T.rho i) (T.D c).base = .val (T.V i) m' := by
  have hi := hn.lt
  have hcl := h.cl
  rcases Nat.le_total c i with hle | hle
  · refine read_down hn.at_ hw hc hi hK hv (i - c) c (by omega) fun k h1 h2 hk hb => ?_
    have := (h.cut k hk).1 (hn.bef h.closed hb)
    omega
  · have := read_up hn.at_ hw hc hK hv (c - i) (by omega) fun k h1 h2 hk hb => hn.notBef h.closed ((h.cut k hk).2 (by omega)) hb
    rwa [show i + (c - i) = c by omega] at this

/-- A part of the memory that the part-wise step stands in. -/
theorem Inv.basePart (h : Inv T R0 w0 a0 L a w R M c) (hK : Canon T R0 w0) : Rel P R ⟨M.nxt, (T.D c).base.t⟩ w ∧ ∀ x b, x < M.nxt → (T.D c).base.get x = .yes b → M.get x = .yes b := by
  have hcan := hK.can c h.cl
  have hlim := h.post.rel.lim
  have hle : (T.D c).base.nxt ≤ M.nxt := by
    rw [h.nxt]
    exact Nat.le_trans hcan.bn (hK.mono c ops.size h.cl (Nat.le_refl _))
  have hsub : ∀ x b, x < M.nxt → (T.D c).base.get x = .yes b → M.get x = .yes b := fun x b hx hg => by
    rcases Nat.lt_or_ge x (T.D c).base.nxt with hlt | hge
    · exact h.sbase x b hlt hg
    · rw [hcan.btop x hge (by omega)] at hg; cases hg
  refine ⟨h.post.rel.part (Nat.le_refl _) h.post.rel.gl hsub (fun x b hx hg => h.post.rel.ok x b hx (hsub x b hx hg)) (fun x hx hx2 => hcan.btop x (Nat.le_trans hle hx) hx2), hsub⟩

theorem Inv.env0 (h : Inv T R0 w0 a0 L a w R M c) (hE0 : ∀ t, t < N → (e0.get t).bel m0.nxt) {K : Nat} (hm : m0.nxt ≤ K) {R2 : Rho} (he : R.ext R2 K) : ∀ t, t < N → den R2 (e0.get t) = den R (e0.get t) :=
  fun t ht => den_ext he _ (SV.bel_mono hm _ (hE0 t ht))

/-- What has come up, seen from an operation that makes names. -/
theorem Inv.seen (h : Inv T R0 w0 a0 L a w R M c) (hn : Next ops L i o) (hK : Canon T R0 w0) (hw : T.W o i = true) (hcl : clsOf P o.op = .fresh ∨ clsOf P o.op = .loud) {R2 : Rho}
    (hext : R.ext R2 (T.D i).mem.nxt) (hbut : R.but R2 M.nxt (T.D i).mem.nxt (T.D (i + 1)).mem.nxt) : ∀ p, L p → p < ops.size → den R2 (T.V p) = den R (T.V p) := by
  intro p hL hp
  have hi := hn.lt
  have hne : p ≠ i := fun e => hn.not (e ▸ hL)
  rcases Nat.lt_or_ge p i with hlt | hge
  · exact den_ext hext _ (SV.bel_mono (hK.mono (p + 1) i (by omega) (by omega)) _ (hK.v p hp))
  · have hop : ops[p]? = some ops[p] := by simp [hp]
    obtain ⟨_, _, hout⟩ := T.steps hop
    have hmem := T.als_mem p (by omega) i o (by omega) hn.at_ hw hcl
    rcases hout _ hmem with h1 | ⟨h1, _⟩
    · exact (hn.notBef h.closed hL h1).elim
    · refine den_out hbut _ ?_ h1
      rw [h.nxt]
      exact SV.bel_mono (hK.mono (p + 1) ops.size (by omega) (Nat.le_refl _)) _ (hK.v p hp)
/-- A block made before its turn. -/
theorem Inv.early (h : Inv T R0 w0 a0 L a w R M c) (hn : Next ops L i o) (hw : T.W o i = true) (hcl : clsOf P o.op = .fresh ∨ clsOf P o.op = .loud) {j x : Nat} {b : Blk} (hL : L j) (hf : T.freshAt j x b) (hij : i < j) :
    b.out (T.D i).mem.nxt (T.D (i + 1)).mem.nxt = true := by
  obtain ⟨oj, hoj, hwj, hcj, rfl, hg⟩ := hf
  have hj : j < ops.size := (Array.getElem?_eq_some_iff.1 hoj).1
  obtain ⟨_, _, hout⟩ := T.steps hoj
  have hmem := T.als_mem j (by omega) i o hij hn.at_ hw hcl
  rcases hout _ hmem with h1 | ⟨_, h1⟩
  · exact (hn.notBef h.closed hL h1).elim
  · have := h1 (isFresh_iff.2 hcj)
    rw [hg] at this
    exact this

theorem Inv.fresh (h : Inv T R0 w0 a0 L a w R M c) (hF : DrawFits P ops) (hn : Next ops L i o) (hK : Canon T R0 w0) (hE0 : ∀ t, t < N → (e0.get t).bel m0.nxt) (hw : T.W o i = true) (hc : clsOf P o.op = .fresh) {b : Blk} (hl : (T.D i).mem.nxt < 32768)
    (mem : (T.D (i + 1)).mem = (T.D i).mem.new b) {R' : Rho} {w' : World} (hp : Post P R ⟨(T.D i).mem.nxt, tnil⟩ w R' ((⟨(T.D i).mem.nxt, tnil⟩ : Mem).new b) w') :
    ∃ R2 M2, Inv T R0 w0 a0 (fun p => L p ∨ p = i) (a.put o.dst (den R2 (T.V i))) w' R2 M2 c ∧ R'.ext R2 (T.D (i + 1)).mem.nxt := by
  have hi := hn.lt
  have hlim := h.post.rel.lim
  have hnx : (T.D (i + 1)).mem.nxt = (T.D i).mem.nxt + 1 := by rw [mem]; rfl
  have hle : (T.D (i + 1)).mem.nxt ≤ M.nxt := by rw [h.nxt]; exact hK.mono (i + 1) ops.size (by omega) (Nat.le_refl _)
  have hcani := hK.can i (by omega)
  have hm0 : m0.nxt ≤ (T.D i).mem.nxt := Nat.le_trans hcani.bm hcani.bn
  have hnl : ¬ T.loudAt i := notLoud_of hn.at_ (.inl (by rw [hc]; exact fun e => by cases e))
  -- no loud one that has come up stands behind
  have hlate : ∀ k, T.loudAt k → k < c → k < i := fun k hk hkc => by
    have hLk := (h.cut k hk).2 hkc
    rcases Nat.lt_trichotomy k i with h1 | h1 | h1
    · exact h1
    · exact absurd (h1 ▸ hk) hnl
    · obtain ⟨ok, hok, _, hck⟩ := hk
      exact (hn.notBef h.closed hLk (hF.loud k i ok o hok hn.at_ h1 (isLoud_iff.2 hck) (.inr (isFresh_iff.2 hc)))).elim
  have hbase : (T.D c).base.nxt ≤ (T.D i).mem.nxt := by
    rcases Nat.le_total c i with hci | hci
    · exact Nat.le_trans (hK.can c h.cl).bn (hK.mono c i hci (by omega))
    · rw [hK.base i c hci h.cl fun k h1 h2 hk => by have := hlate k hk h2; omega]
      exact hcani.bn
  have hjn : ∀ j x b', T.freshAt j x b' → j < ops.size ∧ x = (T.D j).mem.nxt ∧ (T.D (j + 1)).mem.nxt = x + 1 ∧ (T.D (j + 1)).mem.get x = .yes b' := fun j x b' hf => by
    obtain ⟨oj, hoj, hwj, hcj, hx, hg⟩ := hf
    refine ⟨(Array.getElem?_eq_some_iff.1 hoj).1, hx, ?_, hg⟩
    obtain ⟨hs, _, _⟩ := T.steps hoj
    cases hs with
    | fresh _ _ _ _ _ mem' => rw [mem', hx]; rfl
    | skip hw' => rw [hwj] at hw'; cases hw'
    | pure _ hc' => rw [hcj] at hc'; cases hc'
    | read _ hc' => rw [hcj] at hc'; cases hc'
    | loud _ hc' => rw [hcj] at hc'; cases hc'
  have hapart : ∀ j b' x, j ≠ i → T.freshAt j x b' → x ≠ (T.D i).mem.nxt := fun j b' x hji hf e => by
    obtain ⟨k1, k2, k3, _⟩ := hjn j x b' hf
    rcases Nat.lt_or_ge j i with h1 | h1
    · have := hK.mono (j + 1) i (by omega) (by omega)
      omega
    · have := hK.mono (i + 1) j (by omega) (by omega)
      omega
  obtain ⟨t, ht1, ht2⟩ := mem_of (fun x => if x = (T.D i).mem.nxt then .yes b else M.get x) M.nxt hlim
  have hget : ∀ x, x < M.nxt → (⟨M.nxt, t⟩ : Mem).get x = if x = (T.D i).mem.nxt then .yes b else M.get x := ht1
  have hnew : ∀ x, x < 32768 → ((⟨(T.D i).mem.nxt, tnil⟩ : Mem).new b).get x = if (T.D i).mem.nxt = x then .yes b else .no := fun x hx => by
    rw [Mem.get_new (m := ⟨(T.D i).mem.nxt, tnil⟩) b hl hx]
    by_cases he : (T.D i).mem.nxt = x
    · rw [if_pos he, if_pos he]
    · rw [if_neg he, if_neg he]; exact tget_nil x
  obtain ⟨R2, k1, k2, k3, k4⟩ := frame_step (M' := ⟨M.nxt, t⟩) h.post hp hm0 (by show (T.D i).mem.nxt + 1 ≤ _; omega) (fun x b' _ hg => by rw [show (⟨(T.D i).mem.nxt, tnil⟩ : Mem).get x = .no from tget_nil x] at hg; cases hg) rfl ht2
    (fun x b' hx hg => by
      rw [hget x hx] at hg
      by_cases he : x = (T.D i).mem.nxt
      · rw [if_pos he] at hg
        refine .inl ⟨by show x < (T.D i).mem.nxt + 1; omega, ?_⟩
        rw [hnew x (by have : x < M.nxt := hx; omega), if_pos he.symm]
        exact hg
      · rw [if_neg he] at hg
        refine .inr ⟨hg, fun _ => tget_nil x, ?_, ?_⟩
        · show x < (T.D i).mem.nxt ∨ (T.D i).mem.nxt + 1 ≤ x
          omega
        · rcases h.spec x b' hx hg with ⟨h1, h2⟩ | ⟨j, h1, h2, h3⟩
          · exact .inl (Blk.ok_mono hbase ((hK.can c h.cl).bok x b' h1 h2))
          · have hji : j ≠ i := fun e => hn.not (e ▸ h1)
            obtain ⟨g1, g2, g3, g4⟩ := hjn j x b' h2
            rcases Nat.lt_or_ge j i with hlt | hge
            · obtain ⟨Rj, wj, hPj⟩ := (hK.can (j + 1) (by omega)).ex
              exact .inl (Blk.ok_mono (hK.mono (j + 1) i (by omega) (by omega)) (hPj.rel.ok x b' (by omega) g4))
            · have := h.early hn hw (.inl hc) h1 h2 (by omega)
              rw [hnx] at this
              exact .inr this)
  have hnx2 : ((⟨(T.D i).mem.nxt, tnil⟩ : Mem).new b).nxt = (T.D (i + 1)).mem.nxt := by rw [hnx]; rfl
  rw [hnx2] at k2 k3
  refine ⟨R2, ⟨M.nxt, t⟩, h.put hF hn (h.seen hn hK hw (.inl hc) k4 k2) (h.env0 hE0 hm0 k4) k1 rfl h.cl (fun k hk => ?_) (fun x b' hx hg => ?_) (fun x b' hx hg => ?_) (fun x b' j hL hf hk => ?_), k3⟩
  · rw [← h.cut k hk]
    exact ⟨fun hh => hh.resolve_right fun e => hnl (e ▸ hk), .inl⟩
  · rw [hget x hx] at hg
    by_cases he : x = (T.D i).mem.nxt
    · rw [if_pos he] at hg
      refine .inr ⟨i, .inr rfl, ⟨o, hn.at_, hw, hc, he, ?_⟩, hlate⟩
      rw [mem, Mem.get_new b hl (by omega), if_pos he.symm]
      exact hg
    · rw [if_neg he] at hg
      rcases h.spec x b' hx hg with h1 | ⟨j, h1, h2⟩
      · exact .inl h1
      · exact .inr ⟨j, .inl h1, h2⟩
  · rw [hget x (by omega), if_neg (by omega)]
    exact h.sbase x b' hx hg
  · by_cases hji : j = i
    · subst hji
      obtain ⟨_, g2, g3, g4⟩ := hjn j x b' hf
      rw [hget x (by omega), if_pos g2]
      rw [mem, Mem.get_new b hl (by omega), if_pos g2.symm] at g4
      exact g4
    · obtain ⟨g1, g2, g3, g4⟩ := hjn j x b' hf
      have := hK.mono (j + 1) ops.size (by omega) (Nat.le_refl _)
      have hxM : x < M.nxt := by rw [h.nxt]; omega
      rw [hget x hxM, if_neg (hapart j b' x hji hf)]
      exact h.sfresh x b' j (hL.resolve_right hji) hf hk

theorem Inv.loud (h : Inv T R0 w0 a0 L a w R M c) (hF : DrawFits P ops) (hn : Next ops L i o) (hK : Canon T R0 w0) (hE0 : ∀ t, t < N → (e0.get t).bel m0.nxt) (hw : T.W o i = true) (hc : clsOf P o.op = .loud)
    (base : (T.D (i + 1)).base = (T.D (i + 1)).mem) :
    Rel P R (T.D i).mem w ∧ ∀ R' w', Post P R (T.D i).mem w R' (T.D (i + 1)).mem w' →
      ∃ R2 M2, Inv T R0 w0 a0 (fun p => L p ∨ p = i) (a.put o.dst (den R2 (T.V i))) w' R2 M2 (i + 1) ∧ R'.ext R2 (T.D (i + 1)).mem.nxt := by
  have hi := hn.lt
  have hlim := h.post.rel.lim
  have hla : T.loudAt i := ⟨o, hn.at_, hw, hc⟩
  have hle : (T.D (i + 1)).mem.nxt ≤ M.nxt := by rw [h.nxt]; exact hK.mono (i + 1) ops.size (by omega) (Nat.le_refl _)
  have hmn : (T.D i).mem.nxt ≤ (T.D (i + 1)).mem.nxt := hK.mono i (i + 1) (by omega) (by omega)
  have hcani := hK.can i (by omega)
  have hm0 : m0.nxt ≤ (T.D i).mem.nxt := Nat.le_trans hcani.bm hcani.bn
  have hcut : ∀ k, T.loudAt k → (L k ↔ k < i) := fun k hk => by
    have hk' := hk
    obtain ⟨ok, hok, hwk, hck⟩ := hk'
    constructor
    · intro hL
      rcases Nat.lt_trichotomy k i with h1 | h1 | h1
      · exact h1
      · exact absurd (h1 ▸ hL) hn.not
      · exact (hn.notBef h.closed hL (hF.loud k i ok o hok hn.at_ h1 (isLoud_iff.2 hck) (.inl (isLoud_iff.2 hc)))).elim
    · exact fun h1 => hn.bef h.closed (hF.loud i k o ok hn.at_ hok h1 (isLoud_iff.2 hc) (.inl (isLoud_iff.2 hck)))
  have hci : ∀ k, T.loudAt k → (k < c ↔ k < i) := fun k hk => (h.cut k hk).symm.trans (hcut k hk)
  have hbase : (T.D c).base = (T.D i).base := by
    rcases Nat.le_total c i with hle | hle
    · exact (hK.base c i hle (by omega) fun k h1 h2 hk => by have := (hci k hk).2 h2; omega).symm
    · exact hK.base i c hle h.cl fun k h1 h2 hk => by have := (hci k hk).1 h2; omega
  have hjn : ∀ j x b', T.freshAt j x b' → j < ops.size ∧ x = (T.D j).mem.nxt ∧ (T.D (j + 1)).mem.nxt = x + 1 ∧ (T.D (j + 1)).mem.get x = .yes b' := fun j x b' hf => by
    obtain ⟨oj, hoj, hwj, hcj, hx, hg⟩ := hf
    refine ⟨(Array.getElem?_eq_some_iff.1 hoj).1, hx, ?_, hg⟩
    obtain ⟨hs, _, _⟩ := T.steps hoj
    cases hs with
    | fresh _ _ _ _ _ mem' => rw [mem', hx]; rfl
    | skip hw' => rw [hwj] at hw'; cases hw'
    | pure _ hc' => rw [hcj] at hc'; cases hc'
    | read _ hc' => rw [hcj] at hc'; cases hc'
    | loud _ hc' => rw [hcj] at hc'; cases hc'
  have hji : ∀ j x b', T.freshAt j x b' → j ≠ i := fun j x b' hf e => by
    obtain ⟨oj, hoj, _, hcj, _⟩ := hf
    rw [e, hn.at_] at hoj
    cases hoj
    rw [hc] at hcj; cases hcj
  have hsub : ∀ x b, x < (T.D i).mem.nxt → (T.D i).mem.get x = .yes b → M.get x = .yes b := fun x b hx hg => by
    rcases hcani.spec x b hx hg with ⟨h1, h2⟩ | ⟨j, h1, h2, h3⟩
    · exact h.sbase x b (by rw [hbase]; exact h1) (by rw [hbase]; exact h2)
    · have h2' := h2
      obtain ⟨oj, hoj, hwj, hcj, _⟩ := h2'
      refine h.sfresh x b j (hn.bef h.closed (hF.loud i j o oj hn.at_ hoj h1 (isLoud_iff.2 hc) (.inr (isFresh_iff.2 hcj)))) h2 fun k hk hkc => ?_
      have hki := (hci k hk).1 hkc
      rcases Nat.lt_trichotomy k j with h4 | h4 | h4
      · exact h4
      · subst h4
        obtain ⟨ok, hok, _, hck⟩ := hk
        rw [hoj] at hok; cases hok
        rw [hcj] at hck; cases hck
      · exact absurd hk (h3 k h4 hki)
  obtain ⟨Ri, wi, hPi⟩ := hcani.ex
  refine ⟨h.post.rel.part (by omega) hPi.rel.gl hsub hPi.rel.ok hPi.rel.top, fun R' w' hp => ?_⟩
  obtain ⟨t, ht1, ht2⟩ := mem_of (fun x => if x < (T.D (i + 1)).mem.nxt then (T.D (i + 1)).mem.get x else M.get x) M.nxt hlim
  have hget : ∀ x, x < M.nxt → (⟨M.nxt, t⟩ : Mem).get x = if x < (T.D (i + 1)).mem.nxt then (T.D (i + 1)).mem.get x else M.get x := ht1
  -- what of the memory lies behind the new names
  have hbeh : ∀ x b', x < M.nxt → M.get x = .yes b' → ¬ x < (T.D (i + 1)).mem.nxt → ∃ j, L j ∧ T.freshAt j x b' ∧ i < j := by
    intro x b' hx hg hno
    rcases h.spec x b' hx hg with ⟨h1, _⟩ | ⟨j, h1, h2, h3⟩
    · rw [hbase] at h1
      have := hcani.bn
      omega
    · refine ⟨j, h1, h2, ?_⟩
      obtain ⟨g1, g2, g3, _⟩ := hjn j x b' h2
      have hne := hji j x b' h2
      rcases Nat.lt_or_ge j i with hlt | hge
      · have := hK.mono (j + 1) i (by omega) (by omega)
        omega
      · omega
  obtain ⟨R2, k1, k2, k3, k4⟩ := frame_step (M' := ⟨M.nxt, t⟩) h.post hp hm0 hle hsub rfl ht2
    (fun x b' hx hg => by
      rw [hget x hx] at hg
      by_cases he : x < (T.D (i + 1)).mem.nxt
      · rw [if_pos he] at hg
        exact .inl ⟨he, hg⟩
      · rw [if_neg he] at hg
        obtain ⟨j, h1, h2, h3⟩ := hbeh x b' hx hg he
        exact .inr ⟨hg, fun hlt => by omega, .inr (by omega), .inr (h.early hn hw (.inr hc) h1 h2 h3)⟩)
  refine ⟨R2, ⟨M.nxt, t⟩, h.put hF hn (h.seen hn hK hw (.inr hc) k4 k2) (h.env0 hE0 hm0 k4) k1 rfl (by omega) (fun k hk => ?_) (fun x b' hx hg => ?_) (fun x b' hx hg => ?_) (fun x b' j hL hf hk => ?_), k3⟩
  · rw [hcut k hk]; omega
  · rw [hget x hx] at hg
    rw [base]
    by_cases he : x < (T.D (i + 1)).mem.nxt
    · rw [if_pos he] at hg
      exact .inl ⟨he, hg⟩
    · rw [if_neg he] at hg
      obtain ⟨j, h1, h2, h3⟩ := hbeh x b' hx hg he
      exact .inr ⟨j, .inl h1, h2, fun k _ hk => by omega⟩
  · rw [base] at hx hg
    rw [hget x (by omega), if_pos hx]
    exact hg
  · have hne := hji j x b' hf
    have hij := hk i hla (by omega)
    obtain ⟨g1, g2, g3, g4⟩ := hjn j x b' hf
    have := hK.mono (i + 1) j (by omega) (by omega)
    have := hK.mono (j + 1) ops.size (by omega) (Nat.le_refl _)
    rw [hget x (by rw [h.nxt]; omega), if_neg (by omega)]
    exact h.sfresh x b' j (hL.resolve_right hne) hf fun k hk1 hk2 => hk k hk1 (by have := (hci k hk1).1 hk2; omega)
end
end Go.Ev
namespace Go.Ev
variable {P : Program} {R : Rho} {m : Mem} {w : World}
section
variable {ops : Array Oper} {N : Nat} {E : EvF} {e0 : Env} {m0 : Mem} {T : Run P ops N E e0 m0} {R0 : Rho} {w0 : World} {a0 a : Act} {L : Nat → Prop} {M : Mem} {c i : Nat} {o : Oper}

/-- One operation that comes up. -/
theorem Inv.step (h : Inv T R0 w0 a0 L a w R M c) (hF : DrawFits P ops) (hN : N ≤ 512) (hn : Next ops L i o) (hK : Canon T R0 w0) (hE0 : ∀ t, t < N → (e0.get t).bel m0.nxt) (hC : CallOK P E) (hRd : RoundOK P E)
    {Rf : Rho} {ro : Option Nat} {Q : Exit → Act → World → Prop} {K : Act → World → Prop}
    (hk : ∀ a' w' R' M' c', Inv T R0 w0 a0 (fun p => L p ∨ p = i) a' w' R' M' c' → K a' w') : wpOpIn (fnc Rf ro) 0 P ops Q i K a w := by
  have hi := hn.lt
  have hcan := hK.can i (by omega)
  have hlimM := h.post.rel.lim
  have hnM : (T.D i).mem.nxt ≤ M.nxt := by rw [h.nxt]; exact hK.mono i ops.size (by omega) (Nat.le_refl _)
  unfold wpOpIn
  rw [hn.at_]
  simp only
  rw [h.wanted hF hN hn hcan]
  obtain ⟨hs, _, _⟩ := T.steps hn.at_
  have henvM : ∀ t, t < N → ((T.D i).env.get t).bel M.nxt := fun t ht => SV.bel_mono hnM _ (hcan.env t ht)
  cases hs with
  | skip hw hv =>
    rw [hw, if_neg (by simp)]
    refine ⟨fnc_about Rf ro, ?_⟩
    have := h.quiet hF hn (R2 := R) (w2 := w) (notLoud_of hn.at_ (.inr hw)) (notFresh_of hn.at_ (.inr hw)) hK hE0 (Rho.ext_refl _ _) h.post
    rw [hv, den_und] at this
    exact hk _ _ _ _ _ this
  | pure hw hc hv =>
    rw [hw, if_pos rfl]
    have hx := pure_at hc hv M
    have heq := execOp_congr o (sel_of hx) (h.eval hF hN hn)
    refine loud_ok hC hRd h.post.rel (opd_of h.post.rel hN henvM) heq (show loudS P E o.op _ M = some (T.V i, M) by unfold loudS; rw [show opS P o.op (fun x => opd P N x (T.D i).env) M = .val (T.V i) M from hx]) fun R' w' hp _ => ?_
    exact hk _ _ _ _ _ (h.quiet hF hn (notLoud_of hn.at_ (.inl (by rw [hc]; exact fun e => by cases e))) (notFresh_of hn.at_ (.inl (by rw [hc]; exact fun e => by cases e))) hK hE0 hp.ext (h.post.trans hp))
  | read hw hc hv =>
    rw [hw, if_pos rfl]
    have hx := read_at hc (h.read hn hw hc hK hv) M.nxt
    obtain ⟨hrel, hsub⟩ := h.basePart hK
    have heq := execOp_congr o (sel_of hx) (h.eval hF hN hn)
    refine loud_ok hC hRd hrel (opd_of hrel hN henvM) heq (show loudS P E o.op _ _ = some (T.V i, ⟨M.nxt, (T.D c).base.t⟩) by unfold loudS; rw [show opS P o.op (fun x => opd P N x (T.D i).env) ⟨M.nxt, (T.D c).base.t⟩ = .val (T.V i) _ from hx]) fun R' w' hp _ => ?_
    obtain ⟨R2, k1, k2, k3, k4⟩ := frame_step (M' := M) h.post hp h.post.nxt (Nat.le_refl _) hsub rfl h.post.rel.top (fun x b hx hg => by
      cases hgi : (⟨M.nxt, (T.D c).base.t⟩ : Mem).get x with
      | no => exact .inr ⟨hg, fun _ => rfl, .inl hx, .inl (h.post.rel.ok x b hx hg)⟩
      | yes b' =>
        have := hsub x b' hx hgi
        rw [hg] at this
        cases this
        exact .inl ⟨hx, rfl⟩)
    have hden : den R' (T.V i) = den R2 (T.V i) := by
      refine (den_ext k3 _ ?_).symm
      show (T.V i).bel M.nxt
      rw [h.nxt]
      exact SV.bel_mono (hK.mono (i + 1) ops.size (by omega) (Nat.le_refl _)) _ (hK.v i hi)
    rw [hden]
    exact hk _ _ _ _ _ (h.quiet hF hn (notLoud_of hn.at_ (.inl (by rw [hc]; exact fun e => by cases e))) (notFresh_of hn.at_ (.inl (by rw [hc]; exact fun e => by cases e))) hK hE0 k4 k1)
  | fresh hw hc b hl hv mem =>
    rw [hw, if_pos rfl]
    have hx := hv ⟨(T.D i).mem.nxt, tnil⟩ rfl
    have heq := execOp_congr o (sel_of hx) (h.eval hF hN hn)
    obtain ⟨Ri, wi, hPi⟩ := hcan.ex
    have hrel : Rel P R ⟨(T.D i).mem.nxt, tnil⟩ w := h.post.rel.part hnM hPi.rel.gl (fun x b _ hg => by rw [show (⟨(T.D i).mem.nxt, tnil⟩ : Mem).get x = .no from tget_nil x] at hg; cases hg)
      (fun x b _ hg => by rw [show (⟨(T.D i).mem.nxt, tnil⟩ : Mem).get x = .no from tget_nil x] at hg; cases hg) (fun x _ _ => tget_nil x)
    refine loud_ok hC hRd hrel (opd_of hrel hN hcan.env) heq (show loudS P E o.op _ _ = some (T.V i, (⟨(T.D i).mem.nxt, tnil⟩ : Mem).new b) by unfold loudS; rw [show opS P o.op (fun x => opd P N x (T.D i).env) ⟨(T.D i).mem.nxt, tnil⟩ = .val (T.V i) _ from hx]) fun R' w' hp _ => ?_
    obtain ⟨R2, M2, k1, k2⟩ := h.fresh hF hn hK hE0 hw hc hl mem hp
    have hden : den R' (T.V i) = den R2 (T.V i) := (den_ext k2 _ (hK.v i hi)).symm
    rw [hden]
    exact hk _ _ _ _ _ k1
  | loud hw hc hv base =>
    rw [hw, if_pos rfl]
    obtain ⟨hrel, hstep⟩ := h.loud hF hn hK hE0 hw hc base
    have hsel : ∀ cs b, o.op ≠ .select cs b := by
      rintro cs b e
      rw [e] at hv
      cases hv
    have heq := execOp_congr o hsel (h.eval hF hN hn)
    refine loud_ok hC hRd hrel (opd_of hrel hN hcan.env) heq hv fun R' w' hp _ => ?_
    obtain ⟨R2, M2, k1, k2⟩ := hstep R' w' hp
    have hden : den R' (T.V i) = den R2 (T.V i) := (den_ext k2 _ (hK.v i hi)).symm
    rw [hden]
    exact hk _ _ _ _ _ k1

/-- Behind all. -/
theorem Inv.done (h : Inv T R0 w0 a0 L a w R M c) (hF : DrawFits P ops) (hN : N ≤ 512) (hK : Canon T R0 w0) {dfs : List (ADf ⊕ Nat)} (hd : dfsRel R0 m0.nxt dfs a0.defers) (hall : ∀ i, i < ops.size → L i) :
    CodeOK P R0 m0 w0 N .normal ⟨(T.D ops.size).env, dfs, (T.D ops.size).mem⟩ .normal a w := by
  have hcan := hK.can ops.size (Nat.le_refl _)
  obtain ⟨Rn, wn, hPn⟩ := hcan.ex
  have hlt : ∀ k, T.loudAt k → k < ops.size := fun k ⟨o, ho, _⟩ => (Array.getElem?_eq_some_iff.1 ho).1
  have hbase : (T.D ops.size).base = (T.D c).base := hK.base c ops.size h.cl (Nat.le_refl _) fun k h1 h2 hk => by
    have := (h.cut k hk).1 (hall k h2)
    omega
  have hsub : ∀ x b, x < (T.D ops.size).mem.nxt → (T.D ops.size).mem.get x = .yes b → M.get x = .yes b := fun x b hx hg => by
    rcases hcan.spec x b hx hg with ⟨h1, h2⟩ | ⟨j, h1, h2, h3⟩
    · rw [hbase] at h1 h2
      exact h.sbase x b h1 h2
    · refine h.sfresh x b j (hall j h1) h2 fun k hk _ => ?_
      rcases Nat.lt_trichotomy k j with h4 | h4 | h4
      · exact h4
      · subst h4
        obtain ⟨ok, hok, _, hck⟩ := hk
        obtain ⟨oj, hoj, _, hcj, _⟩ := h2
        rw [hoj] at hok; cases hok
        rw [hcj] at hck; cases hck
      · exact absurd hk (h3 k h4 (hlt k hk))
  have hrel : Rel P R (T.D ops.size).mem w := h.post.rel.part (Nat.le_of_eq h.nxt.symm) hPn.rel.gl hsub hPn.rel.ok hPn.rel.top
  have hlive : ∀ x, (T.D ops.size).mem.live x → M.live x := fun x ⟨h1, h2⟩ => by
    refine ⟨by rw [h.nxt]; exact h1, ?_⟩
    cases hg : (T.D ops.size).mem.get x with
    | no => exact absurd hg h2
    | yes b => rw [hsub x b h1 hg]; exact fun e => by cases e
  refine ⟨R, ⟨hrel, h.post.ext, by have := h.post.nxt; rw [h.nxt] at this; exact this, h.post.size, h.post.keep, fun x hx => h.post.new x (hlive x hx), h.post.os, h.post.tape, h.post.output⟩, ⟨hrel, ⟨⟨h.size, hN, fun t ht => ?_⟩, hcan.env⟩, ?_⟩, rfl⟩
  · by_cases hw : ∃ (p : Nat) (q : Oper), ops[p]? = some q ∧ q.dst = some t
    · obtain ⟨p, q, hp, hdd⟩ := hw
      have hpl := (Array.getElem?_eq_some_iff.1 hp).1
      rw [h.c1 p q t hp (hall p hpl) hdd, (T.env_some hF hN hp hdd).2 ops.size (Nat.le_refl _) hpl]
    · rw [h.c2 t ht fun p q hp _ hdd => hw ⟨p, q, hp, hdd⟩, T.env_none hN ht ops.size (Nat.le_refl _) fun p q _ hp hdd => hw ⟨p, q, hp, hdd⟩]
  · show dfsRel R _ dfs a.defers
    rw [h.dfr]
    refine hd.ext h.post.ext ?_
    have := h.post.nxt
    rw [h.nxt] at this
    exact this

def Lof (listed : Array Bool) (p : Nat) : Prop := listed.getD p false = true
theorem Lof_set {listed : Array Bool} {i : Nat} (hi : i < listed.size) : Lof (listed.setIfInBounds i true) = fun p => Lof listed p ∨ p = i := by
  funext p
  apply propext
  unfold Lof
  rw [Array.getD_eq_getD_getElem?, Array.getD_eq_getD_getElem?, Array.getElem?_setIfInBounds]
  by_cases h : i = p
  · subst h; simp [hi]
  · rw [if_neg h]
    exact ⟨.inl, fun hh => hh.resolve_right fun e => h e.symm⟩
theorem next_of_ready {listed : Array Bool} (hs : listed.size = ops.size) {i : Nat} (h : i ∈ Region.ready .any ops listed) : ∃ o, Next ops (Lof listed) i o := by
  obtain ⟨h1, o, h2, h3⟩ := mem_ready.1 h
  refine ⟨o, h2, fun hL => ?_, h3⟩
  unfold Lof at hL
  have hi : i < listed.size := by rw [hs]; exact (Array.getElem?_eq_some_iff.1 h2).1
  rw [Array.getD_eq_getD_getElem?, Array.getElem?_eq_getElem hi] at h1 hL
  simp only [Option.getD_some] at h1 hL
  rw [h1] at hL
  cases hL
theorem ready_none {listed : Array Bool} (hs : listed.size = ops.size) (hF : DrawFits P ops) (h : Region.ready .any ops listed = []) : ∀ i, i < ops.size → Lof listed i := by
  intro i
  induction i using Nat.strongRecOn with
  | _ i ih =>
    intro hi
    cases hb : listed.getD i false with
    | true => exact hb
    | false =>
      exfalso
      have ho : ops[i]? = some ops[i] := by simp [hi]
      have : i ∈ Region.ready .any ops listed := mem_ready.2 ⟨by
        have hil : i < listed.size := by rw [hs]; exact hi
        rw [Array.getD_eq_getD_getElem?, Array.getElem?_eq_getElem hil] at hb ⊢
        exact hb, ops[i], ho, fun e he hbd => ih e.on (hF.low i _ ho e he hbd) (by have := hF.low i _ ho e he hbd; omega)⟩
      rw [h] at this
      cases this

theorem count_set {listed : Array Bool} {i : Nat} (hi : i < listed.size) (hf : listed.getD i false = false) : (listed.setIfInBounds i true).toList.count false + 1 = listed.toList.count false := by
  rw [Array.toList_setIfInBounds]
  have hi' : i < listed.toList.length := by simpa using hi
  have hf' : listed.toList[i] = false := by
    rw [Array.getD_eq_getD_getElem?, Array.getElem?_eq_getElem hi] at hf
    simpa using hf
  rw [List.count_set hi', hf']
  have h1 : 0 < listed.toList.count false := List.count_pos_iff.2 (hf' ▸ List.getElem_mem hi')
  have e1 : (if (false == false) = true then 1 else 0) = 1 := rfl
  have e2 : (if (true == false) = true then 1 else 0) = 0 := rfl
  rw [e1, e2]
  omega

theorem draw_any (hF : DrawFits P ops) (hN : N ≤ 512) (hK : Canon T R0 w0) (hE0 : ∀ t, t < N → (e0.get t).bel m0.nxt) (hC : CallOK P E) (hRd : RoundOK P E) {dfs : List (ADf ⊕ Nat)} (hd : dfsRel R0 m0.nxt dfs a0.defers)
    {Rf : Rho} {ro : Option Nat} {Q : Exit → Act → World → Prop} (hQ : ∀ e a' w', CodeOK P R0 m0 w0 N .normal ⟨(T.D ops.size).env, dfs, (T.D ops.size).mem⟩ e a' w' → Q e a' w') :
    ∀ (fuel : Nat) (listed : Array Bool) (a : Act) (w : World) (R : Rho) (M : Mem) (c : Nat), Inv T R0 w0 a0 (Lof listed) a w R M c → listed.size = ops.size → listed.toList.count false = fuel → wpAnyIn (fnc Rf ro) 0 P .any ops Q fuel listed a w := by
  intro fuel
  induction fuel with
  | zero =>
    intro listed a w R M c h hs hcnt
    have hnil : Region.ready .any ops listed = [] := by
      cases hr : Region.ready .any ops listed with
      | nil => rfl
      | cons x xs =>
        exfalso
        have hx : x ∈ Region.ready .any ops listed := by rw [hr]; simp
        obtain ⟨h1, o, h2, _⟩ := mem_ready.1 hx
        have hi : x < listed.size := by rw [hs]; exact (Array.getElem?_eq_some_iff.1 h2).1
        rw [Array.getD_eq_getD_getElem?, Array.getElem?_eq_getElem hi] at h1
        have : 0 < listed.toList.count false := List.count_pos_iff.2 (by
          have : listed[x] = false := h1
          rw [← this]
          simp)
        omega
    exact ⟨hnil, hQ _ _ _ (h.done hF hN hK hd (ready_none hs hF hnil))⟩
  | succ fuel ih =>
    intro listed a w R M c h hs hcnt
    refine ⟨fun hnil => hQ _ _ _ (h.done hF hN hK hd (ready_none hs hF hnil)), fun i hi => ?_⟩
    obtain ⟨o, hn⟩ := next_of_ready hs hi
    have hil : i < listed.size := by rw [hs]; exact hn.lt
    refine h.step hF hN hn hK hE0 hC hRd fun a' w' R' M' c' h' => ?_
    rw [← Lof_set hil] at h'
    refine ih _ a' w' R' M' c' h' (by simpa using hs) ?_
    have hf : listed.getD i false = false := by
      cases hb : listed.getD i false with
      | false => rfl
      | true => exact absurd hb hn.not
    have := count_set hil hf
    omega
end

theorem draw_law {E : EvF} (hC : CallOK P E) (hRd : RoundOK P E) : DrawLaw P E := by
  intro Rf R N ro ops s q a w Q hok hq hF hro h hQ
  obtain ⟨T, hT⟩ := run_of hq
  have hE0 := h.env.2
  have hN := h.env.1.2.1
  have hfit := drawOK_fits hok
  have hK := canon T hC hRd hN h.rel hE0
  have hD := T.zero
  have hcan0 := hK.can 0 (Nat.zero_le _)
  refine draw_any (T := T) (R0 := R) (w0 := w) (a0 := a) (dfs := s.dfs) hfit hN hK hE0 hC hRd h.dfs (fun e a' w' hc => hQ e a' w' ?_) ops.size (Array.replicate ops.size false) a w R ⟨(T.D ops.size).mem.nxt, s.mem.t⟩ 0 ?_ (by simp) ?_
  · subst hT; exact hc
  · have hno : ∀ p, ¬ Lof (Array.replicate ops.size false) p := fun p hp => by
      unfold Lof at hp
      rw [Array.getD_eq_getD_getElem?, Array.getElem?_replicate] at hp
      by_cases hh : p < ops.size <;> simp [hh] at hp
    have hm : s.mem.nxt ≤ (T.D ops.size).mem.nxt := by
      have := hK.mono 0 ops.size (Nat.zero_le _) (Nat.le_refl _)
      rw [hD] at this
      exact this
    obtain ⟨Rn, wn, hPn⟩ := (hK.can ops.size (Nat.le_refl _)).ex
    have hlim := hPn.rel.lim
    have hget : ∀ x b, x < (T.D ops.size).mem.nxt → s.mem.get x = .yes b → x < s.mem.nxt := fun x b hx hg => by
      rcases Nat.lt_or_ge x s.mem.nxt with h1 | h1
      · exact h1
      · rw [h.rel.top x h1 (by omega)] at hg; cases hg
    refine ⟨⟨⟨hlim, h.rel.glob, hPn.rel.gl, fun x y hx hy e => ?_, fun x b hx hg => ?_, fun x b hx hg => ?_, fun x hx hx2 => h.rel.top x (Nat.le_trans hm hx) hx2⟩, Rho.ext_refl _ _, hm, Nat.le_refl _, fun _ _ _ => rfl, fun x hx => ?_, rfl, rfl, rfl⟩,
      rfl, Nat.zero_le _, fun k _ => ⟨fun hh => (hno k hh).elim, fun hh => by omega⟩, fun x b hx hg => ?_, fun x b hx hg => ?_, fun x b j hL => (hno j hL).elim, h.env.1.1, fun p o t _ hL => (hno p hL).elim, fun t ht _ => h.env.1.2.2 t ht, rfl, fun p o hL => (hno p hL).elim⟩
    · have live_ : ∀ x, (⟨(T.D ops.size).mem.nxt, s.mem.t⟩ : Mem).live x → s.mem.live x := fun x ⟨h1, h2⟩ => by
        refine ⟨?_, h2⟩
        cases hg : s.mem.get x with
        | no => exact absurd hg h2
        | yes b => exact hget x b h1 hg
      exact h.rel.inj x y (live_ x hx) (live_ y hy) e
    · exact Blk.ok_mono hm (h.rel.ok x b (hget x b hx hg) hg)
    · exact h.rel.blk x b (hget x b hx hg) hg
    · obtain ⟨h1, h2⟩ := hx
      cases hg : s.mem.get x with
      | no => exact absurd hg h2
      | yes b => exact .inl ⟨x, ⟨hget x b h1 hg, h2⟩, rfl⟩
    · rw [hD]
      exact .inl ⟨hget x b hx hg, hg⟩
    · rw [hD] at hg
      exact hg
  · simp [List.count_replicate]

/-! ### All together -/
variable {sum : FuncId → Option (List SV → Mem → Option (AEnd × Mem))}
structure SoundD (P : Program) (E : EvF) : Prop extends Sound P E where
  dcall : DcallOK P E

theorem step_sound (hm : P.follows .mixedOrders = true) (hN : NoGor P) (hS : SumOK P sum) {E : EvF} (h : SoundD P E) : SoundD P (stepE P sum E) := by
  have hs := h.toSound
  have hC : CallOK P (stepE P sum E) := callS_ok hm hN hS hs h.dcall
  have hR : RoundOK P (stepE P sum E) := roundS_ok hm hN hs
  exact ⟨⟨hC, hR, fun N ro c s ex s' he => loopS_ok hm hN hs N ro c s ex s' he, draw_law hC hR⟩, dcallS_ok hm hN hs⟩
theorem ev_sound (hm : P.follows .mixedOrders = true) (hN : NoGor P) (hS : SumOK P sum) : ∀ n, SoundD P (ev P sum n)
  | 0 => by
    have hC : CallOK P (ev P sum 0) := fun f args m e m' h => by cases h
    have hR : RoundOK P (ev P sum 0) := fun l args m v m' h => by cases h
    exact ⟨⟨hC, hR, fun N ro c s ex s' h => (by cases h), draw_law hC hR⟩, fun f args md m e md' m' h => (by cases h)⟩
  | n + 1 => step_sound hm hN hS (ev_sound hm hN hS n)

/-- **What the evaluator answers of a call is what the call comes to.** -/
theorem ev_calls (hm : P.follows .mixedOrders = true) (hN : NoGor P) (hS : SumOK P sum) {n : Nat} {f : FuncId} {args : List SV} {m m' : Mem} {v : SV} (hb : hasBody P f = true) (hs : (ev P sum n).call f args m = some (.ret v, m'))
    (h : Rel P R m w) (ha : ∀ v ∈ args, v.bel m.nxt) :
    Calls P f (args.map (den R)).toArray w fun e w' => ∃ R', Post P R m w R' m' w' ∧ e = .returned (den R' v) ∧ v.bel m'.nxt := by
  have := (ev_sound hm hN hS n).call f args m _ m' hs R w h ha
  rw [hasBody_run hN hb] at this
  exact (callsIn_wide.1 this)
end Go.Ev
