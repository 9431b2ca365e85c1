/- The evaluator: append, the law. The evaluator: equality at a type. The evaluator: maps. The evaluator: entries put. The evaluator: equality in operations; iterators. The evaluator: one operation that is no call. The evaluator: operations, one by one. The evaluator: the law of one operation that is no call. The evaluator: methods. The evaluator: built-in functions. -/
import Derived.Test.YtadmeeabbkpmlaaGreatDoorVac
import Derived.Laws.StructEq
set_option linter.unusedSimpArgs false
set_option linter.unusedVariables false
namespace Go.Ev
open Go.RowKit
variable {P : Program} {R : Rho} {m : Mem} {w : World}

theorem newRow_st (h : Rel P R m w) (hl : m.nxt < 32768) {r : Rp} {el : TypeId} (hr : r.ok) (hb : ∀ v ∈ r.toList, v.bel m.nxt) (arr : Array Value) (ha : arr.toList = r.toList.map (den R)) (st : Bool)
    (rest : List Value) (κ : Nat) (hκ : arr.size + rest.length = κ * P.cellsOf el) :
    ∃ R' w', (newRow el (arr ++ rest.toArray)).run P w = .ok ⟨R'.b m.nxt, 0, none⟩ w' ∧ Post P R m w R' (m.new (.cells r el true st)) w' ∧ R'.k m.nxt = κ := by
  obtain ⟨R', h1, h2, h3⟩ := h.new hl (.cells r el true st) (.cells (arr ++ rest.toArray) el (0, 0)) κ ⟨hr, fun v hv => SV.bel_mono (Nat.le_succ _) v (hb v hv)⟩ (fun R' he hb' hk' => by
    refine ⟨arr ++ rest.toArray, (0, 0), rest, rfl, ?_, (fun e => by cases e), .inl rfl, fun hop => ?_⟩
    · rw [map_den_ext he hb, Array.toList_append, ha]
    · rw [hk', Array.size_append, List.size_toArray]
      exact hκ)
  refine ⟨R', _, ?_, h3, h2⟩
  rw [h1]
  simp [newRow]

theorem new_app {z : Bool} {e : TypeId} {n : Nat} {x : SV} {new : Rp} (hx : x.bel m.nxt) (hn : cond z (natOf x) (lenS x) = some n) (hnew : cond z (zerosRp P e n) (firstS (P.cellsOf e) n m x) = some new) {R : Rho} {w : World} (h : Rel P R m w) :
    cntd P z n (den R x) w ∧ new.ok ∧ new.size = n * P.cellsOf e ∧ (∀ v ∈ new.toList, v.bel m.nxt) ∧ ∃ arr : Array Value, (appd z (P.cellsOf e) n e (den R x)).run P w = .ok arr w ∧ arr.toList = new.toList.map (den R) := by
  cases z with
  | false =>
    simp only [cond_false] at hn hnew
    obtain ⟨k1, k2, k3, arr, k4, k5⟩ := firstS_ok h hx (by rw [hn]; rfl) hnew
    exact ⟨lenS_ok hn R w, k1, k2, k3, arr, by simp only [appd, Bool.not_false, if_true]; exact k4, k5⟩
  | true =>
    simp only [cond_true] at hn hnew
    obtain ⟨k, rfl⟩ := natOf_eq hn
    obtain ⟨z1, z2, z3⟩ := zerosRp_ok hnew R w
    have lr := Rp.length z1
    refine ⟨⟨k, rfl⟩, z1, ?_, fun v hv => SV.bel_mono (Nat.zero_le _) v (z2 v hv), ?_⟩
    · rcases z3 with ⟨h0, hr0⟩ | ⟨_, _, hsz, _⟩
      · rw [← lr, hr0, h0]; simp
      · exact hsz
    · by_cases hz : n * P.cellsOf e = 0
      · refine ⟨#[], by simp only [appd, Bool.not_true, Bool.false_eq_true, if_false, hz, if_true, Sem.run_pure], ?_⟩
        have : new.toList = [] := by
          rcases z3 with ⟨_, hr0⟩ | ⟨_, _, hsz, _⟩
          · exact hr0
          · exact List.eq_nil_of_length_eq_zero (by rw [lr, hsz, hz])
        rw [this]; rfl
      · rcases z3 with ⟨h0, _⟩ | ⟨_, _, hsz, z0, hz1, hz2, hz3⟩
        · rw [h0] at hz; simp at hz
        · refine ⟨Builtin.zeroCells z0.cells n, by simp only [appd, Bool.not_true, Bool.false_eq_true, if_false, hz, Sem.run_bind, hz1, Result.andThen_ok, Sem.run_pure], ?_⟩
          rw [hz3]
          have h9 := flat_rep z0.cells.toList n (.inl (by rw [Array.length_toList, hz2]; intro e0; rw [e0] at hz; simp at hz))
          rw [Array.length_toList, Array.toArray_toList] at h9
          rw [Builtin.zeroCells, h9]

/-- What `append` makes when it must grow. -/
theorem grow_ok (h : Rel P R m w) {z : Bool} {ts : Array TypeId} {t u e : TypeId} {d : TypeDesc} (ht : ts[0]? = some t) (hu : P.underlying t = some (.slice e)) (h1 : ts[1]? = some u) (hd : P.underlying u = some d) (hz : z = isIntD d)
    (hE : okE P e = true) (hzo : zOK P e = true) {x : SV} {sl n cap : Nat} {new : Rp} (hx : x.bel m.nxt) (hn : cond z (natOf x) (lenS x) = some n) (hnew : cond z (zerosRp P e n) (firstS (P.cellsOf e) n m x) = some new)
    (hlim : sl + n < 1000000) (hnx : m.nxt < 32768) (hr : cap < sl + n) {base : Option Addr} {r0 : Rp} (hr0 : r0.ok) (hs0 : r0.size = sl * P.cellsOf e) (hb0 : ∀ v ∈ r0.toList, v.bel m.nxt)
    {rr : Rp} (c1 : rr.ok) (c2 : rr.toList = r0.toList ++ new.toList) (ho : ∀ w', Rel P R m w' → (Builtin.firstCells (P.cellsOf e) sl (.slice base sl cap)).run P w' = .ok (r0.toList.map (den R)).toArray w') (st : Bool) (ty : TypeId) {m2 : Mem} (p2 : Post P R m w R m2 w) (hm2 : m2.nxt = m.nxt) :
    ∃ R' w', (Builtin.append_ ts ty #[.slice base sl cap, den R x]).run P w = .ok (den R' (.slo m.nxt 0 (sl + n) 0)) w' ∧ Post P R m w R' (m2.new (.cells rr e true st)) w' := by
  obtain ⟨i, hi⟩ := Option.isSome_iff_exists.1 hE
  have p1 := h.drew (w.drawn + 1)
  unfold zOK at hzo
  cases hzc : zeroCs P e with
  | none => simp only [hzc] at hzo; cases hzo
  | some l =>
    simp only [hzc, Bool.and_eq_true, Nat.ble_eq] at hzo
    have hll := Nat.eq_of_beq_eq_true hzo.1
    obtain ⟨z0, hz1, hz2, _, _⟩ := zeroCs_ok hzc R w.drew
    obtain ⟨hcnt, _, _, _, _⟩ := new_app hx hn hnew h
    obtain ⟨_, k1, k2, k3, arr, k4, k5⟩ := new_app hx hn hnew p1.rel
    have hrun := append_grow ht hu h1 hd hz hi hcnt hlim hzo.2 hr (ho _ p1.rel) k4 hz1 ty
    have hge := grownCap_ge w (sl + n) cap e
    have hbel : ∀ v ∈ rr.toList, v.bel m.nxt := fun v hv => by
      rw [c2] at hv
      rcases List.mem_append.1 hv with hv | hv
      · exact hb0 v hv
      · exact k3 v hv
    have hzs : z0.cells.size = P.cellsOf e := by rw [← Array.length_toList, hz2, List.length_map, hll]
    have harr : arr.size = n * P.cellsOf e := by rw [← Array.length_toList, k5, List.length_map, Rp.length k1, k2]
    obtain ⟨R', w', j1, j2, j3⟩ := newRow_st (p2.rel.drew (w.drawn + 1)).rel (by rw [hm2]; exact hnx) c1 (by rw [hm2]; exact hbel) ((r0.toList.map (den R)).toArray ++ arr) (by rw [c2, Array.toList_append, k5]; simp) st (Builtin.zeroCells z0.cells (grownCap w (sl + n) cap e - (sl + n))).toList (grownCap w (sl + n) cap e) (by
      rw [Array.size_append, harr, List.size_toArray, List.length_map, Rp.length hr0, hs0, Array.length_toList]
      simp only [Builtin.zeroCells, Array.size_map, Array.size_range, hzs]
      rw [← Nat.add_mul, ← Nat.add_mul]
      congr 1
      omega)
    rw [hm2] at j1 j3
    refine ⟨R', w', ?_, p2.trans ((p2.rel.drew (w.drawn + 1)).trans j2)⟩
    rw [hrun]
    rw [Array.toArray_toList] at j1
    rw [show w.drew = { w with drawn := w.drawn + 1 } from rfl, j1]
    simp only [Result.andThen_ok, den, j3, Nat.sub_zero]

theorem appendS_ok (h : Rel P R m w) {z : Bool} {ts : Array TypeId} {t u : TypeId} {d : TypeDesc} (ht : ts[0]? = some t) (h1 : ts[1]? = some u) (hd : P.underlying u = some d) (hz : z = isIntD d)
    {s x : SV} {q : SV × Mem} (hsb : s.bel m.nxt) (hx : x.bel m.nxt) (ha : appendS P z t s x m = some q) (ty : TypeId) :
    VM P R m w (Builtin.append_ ts ty #[den R s, den R x]) q.1 q.2 := by
  unfold appendS at ha
  split at ha
  · rename_i e hu
    split at ha
    · rename_i sl n hls hn
      cases hnew : cond z (zerosRp P e n) (firstS (P.cellsOf e) n m x) with
      | none => simp only [hnew] at ha; cases ha
      | some new =>
        simp only [hnew] at ha
        cases hc : (Nat.blt (sl + n) 1000000 && okE P e && zOK P e && new.one && Nat.blt m.nxt 32768) with
        | false => simp only [hc, cond_false] at ha; cases ha
        | true =>
          simp only [hc, cond_true] at ha
          simp only [Bool.and_eq_true, Nat.blt_eq] at hc
          obtain ⟨⟨⟨⟨hlim, hE⟩, hzo⟩, hone⟩, hnx⟩ := hc
          obtain ⟨i, hi⟩ := Option.isSome_iff_exists.1 hE
          have hby : P.bytesOf e ≤ 1000000 := by
            unfold zOK at hzo
            cases hzc : zeroCs P e with
            | none => simp only [hzc] at hzo; cases hzo
            | some l =>
              simp only [hzc, Bool.and_eq_true, Nat.ble_eq] at hzo
              exact hzo.2
          obtain ⟨hcnt, k1, k2, k3, arr, k4, k5⟩ := new_app hx hn hnew h
          have hempty : (Rp.lit 0 []).ok := rfl
          split at ha
          · simp only [lenS, Option.some.injEq] at hls
            subst hls
            cases hn0 : Nat.beq n 0 with
            | true =>
              simp only [hn0, cond_true, Option.some.injEq] at ha
              subst ha
              have := Nat.eq_of_beq_eq_true hn0
              subst this
              refine ⟨R, w, ?_, Post.refl h, trivial⟩
              show (Builtin.append_ ts ty #[.slice none 0 0, den R x]).run P w = _
              rw [append_room ht hu h1 hd hz hi hcnt hlim hby (Nat.le_refl _) k4 none ty]
              rfl
            | false =>
              simp only [hn0, cond_false, Option.some.injEq] at ha
              subst ha
              have hne : n ≠ 0 := fun e => by subst e; simp at hn0
              obtain ⟨R', w', j1, j2⟩ := grow_ok h ht hu h1 hd hz hE hzo (sl := 0) (cap := 0) (base := none) hx hn hnew hlim hnx (by omega) hempty (by simp [Rp.size]) (fun v hv => by cases hv) k1 (by rfl) (fun w' _ => by
                simp only [Builtin.firstCells, Sem.run_pure]; rfl) false ty (Post.refl h) rfl
              rw [Nat.zero_add] at j1
              exact ⟨R', w', j1, j2, Nat.lt_succ_self _⟩
          · rename_i nm off len cap
            simp only [lenS, Option.some.injEq] at hls
            subst hls
            split at ha
            · rename_i r el o st hg
              obtain ⟨hok, hbel, _⟩ := h.cells hsb hg
              have lr := Rp.length hok
              cases hcap : Nat.ble (len + n) cap with
              | true =>
                simp only [hcap, cond_true] at ha
                cases hfit : Nat.ble (off + (len + n) * P.cellsOf e) r.size with
                | false => simp only [hfit, cond_false] at ha; cases ha
                | true =>
                  simp only [hfit, cond_true, Option.some.injEq] at ha
                  subst ha
                  simp only [Nat.ble_eq] at hcap hfit
                  rw [Nat.add_mul] at hfit
                  obtain ⟨w', j1, j2⟩ := h.putRp hsb hg k1 hone k3 (off := off + len * P.cellsOf e) (by rw [k2]; omega) arr k5
                  refine ⟨R, w', ?_, j2, hsb⟩
                  simp only [den]
                  rw [append_room ht hu h1 hd hz hi hcnt hlim hby hcap k4 _ ty]
                  simp only [stB, Option.map_some, add_plain, j1, Result.andThen_ok]
              | false =>
                simp only [hcap, cond_false] at ha
                cases hfit : Nat.ble (off + len * P.cellsOf e) r.size with
                | false => simp only [hfit, cond_false] at ha; cases ha
                | true =>
                  simp only [hfit, cond_true, Option.some.injEq] at ha
                  subst ha
                  simp only [Nat.ble_eq] at hfit
                  have hcap' : cap < len + n := by
                    refine Nat.lt_of_not_le fun hh => ?_
                    rw [ble_t hh] at hcap
                    cases hcap
                  obtain ⟨s1, s2, s3⟩ := Rp.cut_ok hok hfit
                  obtain ⟨c1, c2, _⟩ := Rp.snoc_ok s1 k1
                  obtain ⟨R', w', j1, j2⟩ := grow_ok h ht hu h1 hd hz hE hzo (sl := len) (cap := cap) (base := some ⟨R.b nm, off, none⟩) hx hn hnew hlim hnx hcap' s1 s3 (fun v hv => by
                    rw [s2] at hv
                    exact hbel v (List.mem_of_mem_drop (List.mem_of_mem_take hv))) c1 c2 (fun w' hw' => by
                    simp only [Builtin.firstCells]
                    rw [s2]
                    exact hw'.loads hsb hg hfit) false ty (Post.refl h) rfl
                  exact ⟨R', w', j1, j2, Nat.lt_succ_self _⟩
            · cases ha
          · rename_i nm off len c
            simp only [lenS, Option.some.injEq] at hls
            subst hls
            split at ha
            · rename_i r el st hg
              obtain ⟨hok, hbel, cur, _, rest, hcur, hcl, _, _, hκ⟩ := h.cells hsb hg
              have lr := Rp.length hok
              cases hq : (Nat.beq off (c * P.cellsOf e) && Nat.beq (P.cellsOf el) (P.cellsOf e) && Nat.blt 0 (P.cellsOf e)) with
              | false => simp only [hq, cond_false] at ha; cases ha
              | true =>
                simp only [hq, cond_true] at ha
                simp only [Bool.and_eq_true, Nat.blt_eq] at hq
                obtain ⟨⟨ho, hS⟩, hpos⟩ := hq
                have ho := Nat.eq_of_beq_eq_true ho
                have hS := Nat.eq_of_beq_eq_true hS
                have hcap := open_cap h hsb hg ho hS
                cases hfit : Nat.ble (off + (len + n) * P.cellsOf e) r.size with
                | true =>
                  simp only [hfit, cond_true, Option.some.injEq] at ha
                  subst ha
                  simp only [Nat.ble_eq] at hfit
                  have hcap' : len + n ≤ R.k nm - c := Nat.le_trans ((Nat.le_div_iff_mul_le hpos).2 (by omega)) hcap
                  rw [Nat.add_mul] at hfit
                  obtain ⟨w', j1, j2⟩ := h.putRp hsb hg k1 hone k3 (off := off + len * P.cellsOf e) (by rw [k2]; omega) arr k5
                  refine ⟨R, w', ?_, j2, hsb⟩
                  simp only [den]
                  rw [append_room ht hu h1 hd hz hi hcnt hlim hby hcap' k4 _ ty]
                  simp only [stB, Option.map_some, add_plain, j1, Result.andThen_ok]
                | false =>
                  simp only [hfit, cond_false] at ha
                  cases hq2 : (Nat.beq off 0 && Nat.beq c 0 && Nat.beq el e && Nat.ble (len * P.cellsOf e) r.size) with
                  | false => simp only [hq2, cond_false] at ha; cases ha
                  | true =>
                    simp only [hq2, cond_true, Option.some.injEq] at ha
                    subst ha
                    simp only [Bool.and_eq_true, Nat.ble_eq] at hq2
                    obtain ⟨⟨⟨q1, q2⟩, q3⟩, q4⟩ := hq2
                    have q1 := Nat.eq_of_beq_eq_true q1
                    have q2 := Nat.eq_of_beq_eq_true q2
                    have q3 := Nat.eq_of_beq_eq_true q3
                    subst q1
                    subst q2
                    subst q3
                    have hbig : r.size ≤ (len + n) * P.cellsOf el := by
                      refine Nat.le_of_not_le fun hh => ?_
                      rw [Nat.zero_add, ble_t hh] at hfit
                      cases hfit
                    by_cases hroom : len + n ≤ R.k nm
                    · have hbig' := hbig
                      rw [Nat.add_mul] at hbig'
                      obtain ⟨R', w', j1, j2, j3, j4⟩ := h.overCells hnx hsb (o := true) hg (off := len * P.cellsOf el) k1 hone k3 q4 (by rw [k2]; exact hbig') (by
                        rw [k2, ← Nat.add_mul]
                        exact Nat.mul_le_mul_right _ hroom) arr k5
                      refine ⟨R', w', ?_, j2, Nat.lt_succ_self _⟩
                      simp only [den, Nat.sub_zero, j3, j4]
                      rw [append_room ht hu h1 hd hz hi hcnt hlim hby hroom k4 _ ty]
                      simp only [stB, Option.map_some, add_plain, Nat.zero_add, j1, Result.andThen_ok]
                    · have pk := h.kill hsb
                      obtain ⟨s1, s2, s3⟩ := Rp.cut_ok hok (o := 0) (n := len * P.cellsOf el) (by omega)
                      obtain ⟨c1, c2, _⟩ := Rp.snoc_ok s1 k1
                      obtain ⟨R', w', j1, j2⟩ := grow_ok h ht hu h1 hd hz hE hzo (sl := len) (cap := R.k nm) (base := some ⟨R.b nm, 0, none⟩) hx hn hnew hlim hnx (by omega) s1 s3 (fun v hv => by
                        rw [s2] at hv
                        exact hbel v (List.mem_of_mem_drop (List.mem_of_mem_take hv))) c1 c2 (fun w' hw' => by
                        simp only [Builtin.firstCells]
                        rw [s2]
                        exact hw'.loads hsb hg (by omega)) st ty pk rfl
                      exact ⟨R', w', j1, j2, Nat.lt_succ_self _⟩
            · cases ha
          · cases ha
    · cases ha
  · cases ha
end Go.Ev
namespace Go.Ev
variable {P : Program} {R : Rho} {m : Mem} {w : World}

theorem run_equalIn_struct' (d : Nat) {t : TypeId} {fs : Array Field} (xs ys : Array Value) (ht : P.underlying t = some (.struct fs)) (hp : P.stoodInHeld t = false) (w : World) :
    (Op.equalIn (d + 1) t (.agg xs) (.agg ys)).run P w = (Op.eqFields d xs ys fs.toList).run P w := by
  have hf : P.fieldsOf t = fs := by simp [Program.fieldsOf, ht]
  have := run_equalIn_struct w d t xs ys (by rw [hf]; exact ht) hp
  rw [hf] at this
  exact this

def EqLaw (P : Program) (d : Nat) (eq : TypeId → SV → SV → Option Bool) : Prop :=
  ∀ (R : Rho) (N : Nat) (w : World) (t : TypeId) (x y : SV) (r : Bool), x.bel N → y.bel N → eq t x y = some r → ∀ j, (Op.equalIn (d + j) t (den R x) (den R y)).run P w = .ok r w

theorem part_run {t : TypeId} {cs : List SV} {off : Nat} {v : SV} {N : Nat} (hc : ∀ x ∈ cs, x.bel N) (hs : partS P t cs off = some v) (R : Rho) (w : World) :
    (part t (cs.map (den R)).toArray off).run P w = .ok (den R v) w ∧ v.bel N := part_ok (m := ⟨N, tnil⟩) hc hs

theorem eqF_ok {eq : TypeId → SV → SV → Option Bool} {d : Nat} (he : EqLaw P d eq) {N : Nat} {xs ys : List SV} (hx : ∀ v ∈ xs, v.bel N) (hy : ∀ v ∈ ys, v.bel N) (R : Rho) (w : World) (j : Nat) :
    ∀ (fs : List Field) (r : Bool), eqF P eq xs ys fs = some r → (Op.eqFields (d + j) (xs.map (den R)).toArray (ys.map (den R)).toArray fs).run P w = .ok r w
  | [], r, h => by
    simp only [eqF, Option.some.injEq] at h
    subst h
    rfl
  | f :: fs, r, h => by
    simp only [eqF] at h
    by_cases hn : f.name = "_"
    · have h1 : (f.name == "_") = true := by simp [hn]
      simp only [h1, cond_true] at h
      have := eqF_ok he hx hy R w j fs r h
      simpa [Op.eqFields, hn] using this
    · have h1 : (f.name == "_") = false := by simp [hn]
      simp only [h1, cond_false] at h
      cases ha : partS P f.type xs f.offset with
      | none => simp only [ha] at h; cases h
      | some a =>
        simp only [ha] at h
        cases hb : partS P f.type ys f.offset with
        | none => simp only [hb] at h; cases h
        | some b =>
          simp only [hb] at h
          cases hq : eq f.type a b with
          | none => simp only [hq] at h; cases h
          | some q =>
            simp only [hq] at h
            obtain ⟨a1, a2⟩ := part_run hx ha R w
            obtain ⟨b1, b2⟩ := part_run hy hb R w
            have e1 := he R N w f.type a b q a2 b2 hq j
            simp only [Op.eqFields, ne_eq, hn, not_false_eq_true, if_true, Sem.run_bind, a1, b1, e1, Result.andThen_ok]
            cases q with
            | true =>
              simp only [cond_true] at h
              simpa using eqF_ok he hx hy R w j fs r h
            | false =>
              simp only [cond_false, Option.some.injEq] at h
              subst h
              rfl

def nilForm : TypeDesc → Bool → Value → Prop
  | .pointer _, true, v => v = .pointer none
  | .pointer _, false, v => ∃ a, v = .pointer (some a)
  | .slice _, true, v => v = .slice none 0 0
  | .slice _, false, v => ∃ a l c, v = .slice (some a) l c
  | .map _ _, true, v => v = .map none
  | .map _ _, false, v => ∃ a, v = .map (some a)
  | .func _ _ _, true, v => v = .nilFunc
  | .func _ _ _, false, v => ∃ f a c, v = .func f a c
  | .interface _, true, v => v = .nilIface
  | .interface _, false, v => ∃ t x, v = .iface t x
  | _, _, _ => False
theorem isNilAt_form {D : TypeDesc} {x : SV} {a : Bool} (h : isNilAt D x = some a) (R : Rho) : nilForm D a (den R x) := by
  cases D <;> first
    | (simp only [isNilAt] at h; cases h; done)
    | skip
  all_goals
    cases x <;> first
      | (simp only [isNilAt] at h; cases h; done)
      | (simp only [isNilAt, Option.some.injEq] at h; subst h; first | exact ⟨_, rfl⟩ | exact ⟨_, _, rfl⟩ | exact ⟨_, _, _, rfl⟩)
      | skip
  all_goals
    rename_i tg
    cases tg <;> first
      | (simp only [isNilAt] at h; cases h; done)
      | (simp only [isNilAt, Option.some.injEq] at h; subst h; first | rfl | exact ⟨_, rfl⟩ | exact ⟨_, _, rfl⟩ | exact ⟨_, _, _, rfl⟩)

theorem nilEq_ok {t : TypeId} {D : TypeDesc} (hu : P.underlying t = some D) {x y : SV} {r : Bool} (h : nilEq D x y = some r) (R : Rho) (w : World) (j : Nat) :
    (Op.equalIn (j + 1) t (den R x) (den R y)).run P w = .ok r w := by
  unfold nilEq at h
  cases hx : isNilAt D x with
  | none => simp only [hx] at h; cases h
  | some a =>
    simp only [hx] at h
    cases hy : isNilAt D y with
    | none => simp only [hy] at h; cases h
    | some b =>
      simp only [hy] at h
      have fx := isNilAt_form hx R
      have fy := isNilAt_form hy R
      cases D <;> first
        | (simp only [isNilAt] at hx; cases hx; done)
        | skip
      all_goals
        cases a <;> cases b <;> simp only [cond_true, cond_false, Option.some.injEq] at h <;> first
          | (cases h; done)
          | skip
      all_goals
        subst h
        simp only [nilForm] at fx fy
        first
          | (rw [fx, fy])
          | (rw [fx]; obtain ⟨_, fy⟩ := fy; rw [fy])
          | (rw [fx]; obtain ⟨_, _, fy⟩ := fy; rw [fy])
          | (rw [fx]; obtain ⟨_, _, _, fy⟩ := fy; rw [fy])
          | (rw [fy]; obtain ⟨_, fx⟩ := fx; rw [fx])
          | (rw [fy]; obtain ⟨_, _, fx⟩ := fx; rw [fx])
          | (rw [fy]; obtain ⟨_, _, _, fx⟩ := fx; rw [fx])
        simp only [Op.equalIn, Sem.run_bind, run_underlying hu, Result.andThen_ok, Sem.run_pure, Option.isNone_none, Option.isNone_some]

theorem eqT_ok : ∀ (d : Nat), EqLaw P d (eqT P d)
  | 0 => fun _ _ _ _ _ _ _ _ _ h => by cases h
  | d + 1 => fun R N w t x y r hx hy h j => by
    have IH := eqT_ok d
    simp only [eqT] at h
    rw [Nat.add_right_comm]
    cases hu : P.underlying t with
    | none => simp only [hu] at h; cases h
    | some D =>
      simp only [hu] at h
      cases D <;> first
        | (exact nilEq_ok hu h R w (d + j))
        | skip
      · cases x <;> first | (cases h; done) | skip
        cases y <;> first | (cases h; done) | skip
        rename_i a b
        simp only [Option.some.injEq] at h
        subst h
        simp only [den, Op.equalIn, Sem.run_bind, run_underlying hu, Result.andThen_ok, Sem.run_pure]
        cases a <;> cases b <;> rfl
      · cases x <;> first | (cases h; done) | skip
        cases y <;> first | (cases h; done) | skip
        rename_i k a l b
        cases hk : beqK k l with
        | false => simp only [hk, cond_false] at h; cases h
        | true =>
          simp only [hk, cond_true, Option.some.injEq] at h
          subst h
          have := beqK_eq hk
          subst this
          simp only [den, Op.equalIn, Sem.run_bind, run_underlying hu, Result.andThen_ok, if_true, Sem.run_pure, ieq_eq]
          rfl
      · cases x <;> first | (cases h; done) | skip
        cases y <;> first | (cases h; done) | skip
        rename_i a b
        simp only [Option.some.injEq] at h
        subst h
        simp only [den, Op.equalIn, Sem.run_bind, run_underlying hu, Result.andThen_ok, Sem.run_pure, seq_eq]
        congr 1
        show (a.toArray == b.toArray) = decide (a = b)
        by_cases e : a = b
        · subst e; simp
        · rw [decide_eq_false e]
          exact beq_eq_false_iff_ne.2 fun e2 => e (by simpa using congrArg Array.toList e2)
      · rename_i fs
        cases x <;> first | (cases h; done) | skip
        cases y <;> first | (cases h; done) | skip
        rename_i a b
        cases hp : P.stoodInHeld t with
        | true => simp only [hp, cond_true] at h; cases h
        | false =>
          simp only [hp, cond_false] at h
          simp only [den]
          rw [run_equalIn_struct' (d + j) _ _ hu hp, denL_toL, denL_toL]
          exact eqF_ok IH (toL_bel a hx) (toL_bel b hy) R w j _ r h

theorem eqT_equal {t : TypeId} {x y : SV} {r : Bool} {N : Nat} (hx : x.bel N) (hy : y.bel N) (h : eqT P 3 t x y = some r) (R : Rho) (w : World) : (Op.equal t (den R x) (den R y)).run P w = .ok r w :=
  eqT_ok 3 R N w t x y r hx hy h 9997

/-! ### Keys -/
def ChkLaw (P : Program) (d : Nat) (chk : TypeId → SV → Bool) : Prop :=
  ∀ (R : Rho) (N : Nat) (w : World) (t : TypeId) (x : SV) (e : Bool), x.bel N → chk t x = true → ∀ j, (Instr.checkKey e (d + j) t (den R x)).run P w = .ok () w

theorem chkF_ok {chk : TypeId → SV → Bool} {d : Nat} (he : ChkLaw P d chk) {N : Nat} {xs : List SV} (hx : ∀ v ∈ xs, v.bel N) (R : Rho) (w : World) (e : Bool) (j : Nat) :
    ∀ (fs : List Field), chkF P chk xs fs = true →
      (forIn fs PUnit.unit fun (f : Field) (_ : PUnit) =>
        if f.name ≠ "_" then (do
          let y ← part f.type (xs.map (den R)).toArray f.offset
          Instr.checkKey e (d + j) f.type y
          pure (ForInStep.yield PUnit.unit))
        else pure (ForInStep.yield PUnit.unit) : Sem PUnit).run P w = .ok () w
  | [], _ => by simp [Sem.run_pure]
  | f :: fs, h => by
    simp only [chkF] at h
    by_cases hn : f.name = "_"
    · have h1 : (f.name == "_") = true := by simp [hn]
      simp only [h1, cond_true] at h
      have := chkF_ok he hx R w e j fs h
      simp only [List.forIn_cons, hn, ne_eq, not_true_eq_false, if_false, Sem.run_bind, Sem.run_pure, Result.andThen_ok]
      exact this
    · have h1 : (f.name == "_") = false := by simp [hn]
      simp only [h1, cond_false] at h
      cases ha : partS P f.type xs f.offset with
      | none => simp only [ha] at h; cases h
      | some a =>
        simp only [ha] at h
        cases hc : chk f.type a with
        | false => simp only [hc, cond_false] at h; cases h
        | true =>
          simp only [hc, cond_true] at h
          obtain ⟨a1, a2⟩ := part_run hx ha R w
          have e1 := he R N w f.type a e a2 hc j
          have := chkF_ok he hx R w e j fs h
          simp only [List.forIn_cons, hn, ne_eq, not_false_eq_true, if_true, Sem.run_bind, a1, e1, Sem.run_pure, Result.andThen_ok]
          exact this
theorem chkT_ok : ∀ (d : Nat), ChkLaw P d (chkT P d)
  | 0 => fun _ _ _ _ _ _ _ h => by cases h
  | d + 1 => fun R N w t x e hx h j => by
    have IH := chkT_ok d
    simp only [chkT] at h
    rw [Nat.add_right_comm]
    cases hu : P.underlying t with
    | none => simp only [hu] at h; cases h
    | some D =>
      simp only [hu] at h
      cases D <;> first
        | (cases h; done)
        | skip
      · cases x <;> first
          | (cases h; done)
          | (simp only [den, Instr.checkKey, Sem.run_bind, run_underlying hu, Result.andThen_ok, Sem.run_pure]; done)
      · cases x <;> first
          | (cases h; done)
          | (simp only [den, Instr.checkKey, Sem.run_bind, run_underlying hu, Result.andThen_ok, Sem.run_pure]; done)
      · cases x <;> first
          | (cases h; done)
          | (simp only [den, Instr.checkKey, Sem.run_bind, run_underlying hu, Result.andThen_ok, Sem.run_pure]; done)
      · rename_i fs
        cases x <;> first | (cases h; done) | skip
        rename_i a
        have := chkF_ok IH (toL_bel a hx) R w e j fs.toList h
        simp only [den, Instr.checkKey, Sem.run_bind, run_underlying hu, Result.andThen_ok]
        rw [← Array.forIn_toList, denL_toL]
        rw [this]
        rfl
end Go.Ev
namespace Go.Ev
variable {P : Program} {R : Rho} {m : Mem} {w : World}

theorem ba_beq (a b : List UInt8) : ((⟨a.toArray⟩ : ByteArray) == ⟨b.toArray⟩) = decide (a = b) := by
  show (a.toArray == b.toArray) = decide (a = b)
  by_cases e : a = b
  · subst e; simp
  · rw [decide_eq_false e]
    exact beq_eq_false_iff_ne.2 fun e2 => e (by simpa using congrArg Array.toList e2)

theorem sameNow_ok {kt : TypeId} {D : TypeDesc} (hu : P.underlying kt = some D) {x y : SV} {r : Bool} (h : eqT P 3 kt x y = some r) (R : Rho) :
    Instr.sameNow D (den R x) (den R y) = none ∨ Instr.sameNow D (den R x) (den R y) = some r := by
  simp only [eqT, hu] at h
  cases D <;> first
    | (exact .inl rfl)
    | skip
  · cases x <;> first | (cases h; done) | skip
    cases y <;> first | (cases h; done) | skip
    rename_i a b
    simp only [Option.some.injEq] at h
    subst h
    exact .inr (by simp only [den, Instr.sameNow]; cases a <;> cases b <;> rfl)
  · cases x <;> first | (cases h; done) | skip
    cases y <;> first | (cases h; done) | skip
    rename_i k a l b
    cases hk : beqK k l with
    | false => simp only [hk, cond_false] at h; cases h
    | true =>
      simp only [hk, cond_true, Option.some.injEq] at h
      subst h
      have := beqK_eq hk
      subst this
      refine .inr ?_
      simp only [den, Instr.sameNow, if_true, ieq_eq]
      rfl
  · cases x <;> first | (cases h; done) | skip
    cases y <;> first | (cases h; done) | skip
    rename_i a b
    simp only [Option.some.injEq] at h
    subst h
    exact .inr (by simp only [den, Instr.sameNow, seq_eq, ba_beq])

def entD (R : Rho) (e : SV × SV × Nat) : MapEntry := ⟨den R e.1, den R e.2.1, e.2.2⟩
theorem findNow_ok {kt : TypeId} {D : TypeDesc} (hu : P.underlying kt = some D) {k : SV} (R : Rho) : ∀ (l : List (SV × SV × Nat)) (i : Nat) (res : Option (Nat × SV)), findS P kt k l i = some res →
    Instr.findNow D (den R k) (l.map (entD R)) i = none ∨ Instr.findNow D (den R k) (l.map (entD R)) i = some (res.map fun q => (q.1, den R q.2))
  | [], i, res, h => by
    simp only [findS, Option.some.injEq] at h
    subst h
    exact .inr rfl
  | e :: l, i, res, h => by
    simp only [findS] at h
    cases hq : eqT P 3 kt k e.1 with
    | none => simp only [hq] at h; cases h
    | some b =>
      simp only [hq] at h
      have hs : Instr.sameNow D (den R k) (entD R e).key = none ∨ Instr.sameNow D (den R k) (entD R e).key = some b := sameNow_ok hu hq R
      rcases hs with hs | hs
      · exact .inl (by simp only [List.map_cons, Instr.findNow, hs])
      · cases b with
        | true =>
          simp only [Option.some.injEq] at h
          subst h
          exact .inr (by simp only [List.map_cons, Instr.findNow, hs]; rfl)
        | false =>
          simp only at h
          simp only [List.map_cons, Instr.findNow, hs]
          exact findNow_ok hu R l (i + 1) res h
theorem findAsking_ok {kt : TypeId} {k : SV} {N : Nat} (hk : k.bel N) (R : Rho) (w : World) : ∀ (l : List (SV × SV × Nat)) (i : Nat) (res : Option (Nat × SV)), (∀ e ∈ l, e.1.bel N) → findS P kt k l i = some res →
    (Instr.findAsking kt (den R k) (l.map (entD R)) i).run P w = .ok (res.map fun q => (q.1, den R q.2)) w
  | [], i, res, _, h => by
    simp only [findS, Option.some.injEq] at h
    subst h
    rfl
  | e :: l, i, res, hl, h => by
    simp only [findS] at h
    cases hq : eqT P 3 kt k e.1 with
    | none => simp only [hq] at h; cases h
    | some b =>
      simp only [hq] at h
      have he : (Op.equal kt (den R k) (entD R e).key).run P w = .ok b w := eqT_equal hk (hl e List.mem_cons_self) hq R w
      simp only [List.map_cons, Instr.findAsking, Sem.run_bind, he, Result.andThen_ok]
      cases b with
      | true =>
        simp only [Option.some.injEq] at h
        subst h
        rfl
      | false =>
        simp only [Bool.false_eq_true, if_false]
        exact findAsking_ok hk R w l (i + 1) res (fun e he => hl e (List.mem_cons_of_mem _ he)) h
theorem findKey_ok {kt : TypeId} {D : TypeDesc} (hu : P.underlying kt = some D) {k : SV} {N : Nat} (hk : k.bel N) (R : Rho) (w : World) {l : List (SV × SV × Nat)} {res : Option (Nat × SV)} (hl : ∀ e ∈ l, e.1.bel N) (h : findS P kt k l 0 = some res) :
    (Instr.findKey kt (den R k) (l.map (entD R))).run P w = .ok (res.map fun q => (q.1, den R q.2)) w := by
  simp only [Instr.findKey, Sem.run_bind, run_underlying hu, Result.andThen_ok]
  rcases findNow_ok hu R l 0 res h with h1 | h1
  · simp only [h1]
    exact findAsking_ok hk R w l 0 res hl h
  · simp only [h1, Sem.run_pure]

theorem chk_under {kt : TypeId} {k : SV} (h : chkT P 3 kt k = true) : ∃ D, P.underlying kt = some D := by
  simp only [chkT] at h
  cases hu : P.underlying kt with
  | none => simp only [hu] at h; cases h
  | some D => exact ⟨D, rfl⟩
theorem findS_bel {kt : TypeId} {k : SV} {N : Nat} : ∀ {l : List (SV × SV × Nat)} {i : Nat} {q : Nat × SV}, (∀ e ∈ l, e.2.1.bel N) → findS P kt k l i = some (some q) → q.2.bel N
  | [], _, _, _, h => by simp [findS] at h
  | e :: l, i, q, hl, h => by
    simp only [findS] at h
    cases hq : eqT P 3 kt k e.1 with
    | none => simp only [hq] at h; cases h
    | some b =>
      simp only [hq] at h
      cases b with
      | true =>
        simp only [Option.some.injEq] at h
        subst h
        exact hl e List.mem_cons_self
      | false => exact findS_bel (fun e he => hl e (List.mem_cons_of_mem _ he)) h

theorem andThen_assoc' {α β γ : Type} (r : Result α) (f : α → World → Result β) (g : β → World → Result γ) : (r.andThen f).andThen g = r.andThen fun a w => (f a w).andThen g := by
  cases r <;> rfl
def lkEnd (e : TypeId) : Option (Nat × Value) → Sem (Value × Bool)
  | some (_, v) => pure (v, true)
  | none => do pure (← zeroValue e, false)
def lkFin (ok : Bool) (q : Value × Bool) (w' : World) : Result Value := .ok (if ok then .tuple #[q.1, .bool q.2] else q.1) w'
theorem lookup_ok (h : Rel P R m w) {t : TypeId} {x k v : SV} {ok : Bool} (hx : x.bel m.nxt) (hk : k.bel m.nxt) (hs : lookupS P t x k ok m = some v) :
    Val P R m w (Instr.lookup t (den R x) (den R k) ok) v := by
  unfold lookupS at hs
  split at hs
  · rename_i kt e es hu hm
    cases hc : chkT P 3 kt k with
    | false => simp only [hc, cond_false] at hs; cases hs
    | true =>
      simp only [hc, cond_true] at hs
      obtain ⟨D, hD⟩ := chk_under hc
      cases hf : findS P kt k es 0 with
      | none => simp only [hf] at hs; cases hs
      | some res =>
        simp only [hf] at hs
        have hbel : ∀ e ∈ es, e.1.bel m.nxt ∧ e.2.1.bel m.nxt := by
          rcases mapList_ok h hx hm with ⟨_, rfl⟩ | ⟨nm, c, _, _, _, _, hb⟩
          · exact fun e he => by cases he
          · exact hb
        have hfk := findKey_ok hD hk R w (fun e he => (hbel e he).1) hf
        have hck : ∀ b, (Instr.checkKey b 10000 kt (den R k)).run P w = .ok () w := fun b => chkT_ok 3 R m.nxt w kt k b hk hc 9997
        have core : (Instr.lookup t (den R x) (den R k) ok).run P w = ((lkEnd e (res.map (fun q => (q.1, den R q.2)))).run P w).andThen (lkFin ok) := by
          rcases mapList_ok h hx hm with ⟨rfl, rfl⟩ | ⟨nm, c, rfl, _, _, hb, _⟩
          · simp only [Instr.lookup, Sem.run_bind, run_underlying hu, den, Sem.run_pure, Result.andThen_ok, hck]
            simp only [List.map_nil] at hfk
            rw [hfk]
            cases res <;> simp only [Option.map_some, Option.map_none, Result.andThen_ok, lkEnd, lkFin, Sem.run_bind, Sem.run_pure, andThen_assoc']
          · simp only [Instr.lookup, Sem.run_bind, run_underlying hu, den, Result.andThen_ok, gomap hb, Sem.run_pure, hck, List.toList_toArray]
            rw [show (es.map fun e => (⟨den R e.1, den R e.2.1, e.2.2⟩ : MapEntry)) = es.map (entD R) from rfl, hfk]
            cases res <;> simp only [Option.map_some, Option.map_none, Result.andThen_ok, lkEnd, lkFin, Sem.run_bind, Sem.run_pure, andThen_assoc']
        cases res with
        | some q =>
          simp only [Option.some.injEq] at hs
          subst hs
          have hb := findS_bel (fun e he => (hbel e he).2) hf
          refine ⟨?_, ?_⟩
          · rw [core]
            simp only [Option.map_some, lkEnd, Sem.run_pure, Result.andThen_ok]
            cases ok <;> rfl
          · cases ok
            · exact hb
            · exact ⟨hb, trivial, trivial⟩
        | none =>
          simp only at hs
          cases hz : zeroV P e with
          | none => simp only [hz] at hs; cases hs
          | some z =>
            simp only [hz, Option.some.injEq] at hs
            subst hs
            obtain ⟨z1, z2⟩ := zeroV_ok hz R w
            refine ⟨?_, ?_⟩
            · rw [core]
              simp only [Option.map_none, lkEnd, Sem.run_bind, z1, Sem.run_pure, Result.andThen_ok]
              cases ok <;> rfl
            · cases ok
              · exact SV.bel_mono (Nat.zero_le _) _ z2
              · exact ⟨SV.bel_mono (Nat.zero_le _) _ z2, trivial, trivial⟩
  · cases hs
end Go.Ev
namespace Go.Ev
variable {P : Program} {R : Rho} {m : Mem} {w : World}

theorem same1_ok {x y : SV} (h : same1 x y = true) (R : Rho) (n : Nat) : Instr.sameBits n (den R x) (den R y) = true := by
  cases x <;> first | (cases h; done) | skip
  all_goals cases y <;> first | (cases h; done) | skip
  · rename_i k a l b
    simp only [same1] at h
    cases hk : beqK k l with
    | false => simp only [hk, cond_false] at h; cases h
    | true =>
      simp only [hk, cond_true, ieq_eq, decide_eq_true_eq] at h
      have := beqK_eq hk
      subst this
      subst h
      simp [den, Instr.sameBits]
  · rename_i a b
    cases a <;> cases b <;> first | (cases h; done) | (simp [den, Instr.sameBits]; done)
  · rename_i a b
    simp only [same1, seq_eq, decide_eq_true_eq] at h
    subst h
    simp only [den, Instr.sameBits, ba_beq, decide_true]
theorem sameL_ok {R : Rho} {n : Nat} : ∀ {l r : List SV}, sameL l r = true → l.length = r.length ∧ ((l.map (den R)).zip (r.map (den R))).all (fun p => Instr.sameBits n p.1 p.2) = true
  | [], [], _ => ⟨rfl, rfl⟩
  | [], _ :: _, h => by cases h
  | _ :: _, [], h => by cases h
  | a :: l, b :: r, h => by
    simp only [sameL] at h
    cases h1 : same1 a b with
    | false => simp only [h1, cond_false] at h; cases h
    | true =>
      simp only [h1, cond_true] at h
      obtain ⟨k1, k2⟩ := sameL_ok (R := R) (n := n) h
      refine ⟨by simp [k1], ?_⟩
      simp only [List.map_cons, List.zip_cons_cons, List.all_cons, same1_ok h1 R n, Bool.true_and]
      exact k2
theorem sameS_ok {x y : SV} (h : sameS x y = true) (R : Rho) : Instr.sameBits 10000 (den R x) (den R y) = true := by
  cases x with
  | agg a =>
    cases y <;> first | (cases h; done) | skip
    rename_i b
    obtain ⟨k1, k2⟩ := sameL_ok (R := R) (n := 9999) h
    simp only [den, Instr.sameBits, denL_toL, List.size_toArray, List.length_map, k1, beq_self_eq_true, Bool.true_and]
    exact k2
  | _ => simp only [sameS] at h; exact same1_ok h R _

theorem mapPut_ok (h : Rel P R m w) {t : TypeId} {x k v : SV} {m' : Mem} (hx : x.bel m.nxt) (hk : k.bel m.nxt) (hv : v.bel m.nxt) (hs : mapPut P t k v m x = some m') :
    ∃ w', (Instr.mapUpdate t (den R x) (den R k) (den R v)).run P w = .ok () w' ∧ Post P R m w R m' w' := by
  unfold mapPut at hs
  cases hu : P.underlying t with
  | none => simp only [hu] at hs; cases hs
  | some T =>
    cases T with
    | map kt e =>
      simp only [hu] at hs
      cases x <;> first | (cases hs; done) | skip
      rename_i tg
      cases tg <;> first | (cases hs; done) | skip
      rename_i nm
      simp only [putM] at hs
      cases hg : m.get nm with
      | no => simp only [hg] at hs; cases hs
      | yes b =>
        cases b with
        | map es c =>
          simp only [hg] at hs
          have hb : w.heap[R.b nm]? = some (.map (es.map (entD R)).toArray c) := h.blk nm _ hx hg
          have hbel : ∀ e ∈ es, e.1.bel m.nxt ∧ e.2.1.bel m.nxt := h.ok nm _ hx hg
          unfold putE at hs
          cases hc : chkT P 3 kt k with
          | false => simp only [hc, cond_false] at hs; cases hs
          | true =>
            simp only [hc, cond_true] at hs
            obtain ⟨D, hD⟩ := chk_under hc
            cases hf : findS P kt k es 0 with
            | none => simp only [hf] at hs; cases hs
            | some res =>
              simp only [hf] at hs
              have hfk := findKey_ok hD hk R w (fun e he => (hbel e he).1) hf
              have hck : ∀ b, (Instr.checkKey b 10000 kt (den R k)).run P w = .ok () w := fun b => chkT_ok 3 R m.nxt w kt k b hk hc 9997
              have hlt : R.b nm < w.heap.size := (Array.getElem?_eq_some_iff.1 hb).1
              have put : ∀ (o : Obj) (b : Blk), b.ok m.nxt → blkRel P R nm b (some o) → ∃ w', (setObj (R.b nm) o).run P w = .ok () w' ∧ Post P R m w R (m.set nm b) w' := by
                intro o b hb1 hb2
                refine ⟨_, ?_, h.upd hx (by rw [hg]; exact fun e => by cases e) b (w.heap.setIfInBounds (R.b nm) o) hb1 (by simp) (fun j hj => Array.getElem?_setIfInBounds_ne (Ne.symm hj)) (by
                  simpa [hlt] using hb2)⟩
                simp [setObj, Sem.run, hb]
              cases res with
              | none =>
                simp only [Option.some.injEq] at hs
                subst hs
                obtain ⟨w', j1, j2⟩ := put (.map ((es.map (entD R)).toArray.push ⟨den R k, den R v, c⟩) (c + 1)) (.map (es ++ [(k, v, c)]) (c + 1)) (fun e he => by
                  rcases List.mem_append.1 he with he | he
                  · exact hbel e he
                  · rw [List.mem_singleton.1 he]; exact ⟨hk, hv⟩) (by simp [blkRel, entD])
                refine ⟨w', ?_, j2⟩
                simp only [Instr.mapUpdate, Sem.run_bind, run_underlying hu, den, Result.andThen_ok, gomap hb, hck, List.toList_toArray, hfk, Option.map_none]
                exact j1
              | some p =>
                simp only at hs
                cases hq : nth es p.1 with
                | none => simp only [hq] at hs; cases hs
                | some q =>
                  simp only [hq] at hs
                  cases hsm : sameS q.1 k with
                  | false => simp only [hsm, cond_false] at hs; cases hs
                  | true =>
                    simp only [hsm, cond_true, Option.some.injEq] at hs
                    subst hs
                    rw [nth_eq] at hq
                    have hql := (List.getElem?_eq_some_iff.1 hq).1
                    have hqm : q ∈ es := List.mem_of_getElem? hq
                    obtain ⟨w', j1, j2⟩ := put (.map ((es.map (entD R)).toArray.modify p.1 fun e => { e with key := den R k, val := den R v }) c) (.map (setL (k, v, q.2.2) es p.1) c) (fun e he => by
                      rw [setL_eq] at he
                      rcases List.mem_or_eq_of_mem_set he with he | he
                      · exact hbel e he
                      · rw [he]; exact ⟨hk, hv⟩) (by
                      show some (Obj.map _ c) = some (Obj.map _ c)
                      congr 2
                      apply Array.ext
                      · simp [setL_eq]
                      · intro i h1 h2
                        simp only [Array.getElem_modify, setL_eq, List.getElem_toArray, List.getElem_map, List.getElem_set]
                        by_cases hi : p.1 = i
                        · subst hi
                          have : es[p.1] = q := (List.getElem?_eq_some_iff.1 hq).2
                          simp [entD, this]
                        · simp [hi, entD])
                    refine ⟨w', ?_, j2⟩
                    have hold : (((es.map (entD R)).toArray[p.1]?).map (·.key)).getD (den R k) = den R q.1 := by
                      simp [hq, entD]
                    simp only [Instr.mapUpdate, Sem.run_bind, run_underlying hu, den, Result.andThen_ok, gomap hb, hck, List.toList_toArray, hfk, Option.map_some, hold, Instr.keyThatStays, sameS_ok hsm R, if_true, Sem.run_pure]
                    exact j1
        | _ => simp only [hg] at hs; cases hs
    | _ => simp only [hu] at hs; cases hs
end Go.Ev
namespace Go.Ev
variable {P : Program} {R : Rho} {m : Mem} {w : World}

theorem guard_not {op : BinOp} (t : TypeId) (x y : Operand) (a b : Value) (h : op ≠ .eql) (h2 : op ≠ .neq) : (eqGuard op t x y a b).run P w = .ok () w := by
  cases op <;> first | exact absurd rfl h | exact absurd rfl h2 | rfl
theorem guard_int (op : BinOp) (t : TypeId) (x y : Operand) (j k : IntKind) (a b : Int) : (eqGuard op t x y (.int j a) (.int k b)).run P w = .ok () w := by
  cases op <;> rfl
theorem guard_str (op : BinOp) (t : TypeId) (x y : Operand) (a b : ByteArray) : (eqGuard op t x y (.string a) (.string b)).run P w = .ok () w := by
  cases op <;> rfl

theorem eqS_ok {t : TypeId} {x y : Operand} {a b : SV} {r : Bool} {N : Nat} (ha : a.bel N) (hb : b.bel N) (h : eqS P t (isK x || isK y) a b = some r) (op : BinOp) (R : Rho) (w : World) :
    (eqGuard op t x y (den R a) (den R b)).run P w = .ok () w ∧ (Op.equal t (den R a) (den R b)).run P w = .ok r w := by
  have other : ∀ {a b : SV}, a.bel N → b.bel N → (∀ l, a = .agg l → ∀ l2, b ≠ .agg l2) → (a = .tag .nili → b ≠ .tag .nili) → eqT P 3 t a b = some r →
      (eqGuard op t x y (den R a) (den R b)).run P w = .ok () w ∧ (Op.equal t (den R a) (den R b)).run P w = .ok r w := by
    intro a b ha hb h1 h2 h
    refine ⟨?_, eqT_equal ha hb h R w⟩
    by_cases ho : op = .eql ∨ op = .neq
    · have : ∀ (u v : Value), (u = .nilIface → v ≠ .nilIface) → (∀ l, u = .agg l → ∀ l2, v ≠ .agg l2) → (eqGuard op t x y u v).run P w = .ok () w := by
        intro u v k1 k2
        rcases ho with rfl | rfl <;> (cases u <;> first | rfl | skip)
        all_goals (cases v <;> first | rfl | exact absurd rfl (k1 rfl) | exact absurd rfl (k2 _ rfl _))
      refine this _ _ (fun e1 e2 => ?_) (fun l e1 l2 e2 => ?_)
      · cases a <;> first | (simp only [den] at e1; cases e1; done) | skip
        rename_i ta
        cases ta <;> first | (simp only [den] at e1; cases e1; done) | (simp only [den, undef] at e1; cases e1; done) | skip
        cases b <;> first | (simp only [den] at e2; cases e2; done) | skip
        rename_i tb
        cases tb <;> first | (simp only [den] at e2; cases e2; done) | (simp only [den, undef] at e2; cases e2; done) | skip
        exact h2 rfl rfl
      · cases a <;> first | (simp only [den, undef] at e1; cases e1; done) | skip
        · cases b <;> first | (simp only [den, undef] at e2; cases e2; done) | exact h1 _ rfl _ rfl | skip
          rename_i tb
          cases tb <;> (simp only [den, undef] at e2; cases e2)
        · rename_i ta
          cases ta <;> (simp only [den, undef] at e1; cases e1)
    · exact guard_not _ _ _ _ _ (fun e => ho (.inl e)) (fun e => ho (.inr e))
  unfold eqS at h
  split at h
  · split at h
    · rename_i xs ys
      cases hm : P.eqGuardType P.depth t with
      | true => simp only [hm, cond_true] at h; cases h
      | false =>
        simp only [hm, cond_false] at h
        exact ⟨run_eqGuard_agg w op t x y _ _ hm, eqT_equal ha hb h R w⟩
    · cases h
  · split at h
    · cases hk : (isK x || isK y) with
      | false => simp only [hk, cond_false] at h; cases h
      | true =>
        simp only [hk, cond_true] at h
        refine ⟨?_, eqT_equal ha hb h R w⟩
        cases x <;> cases y <;> first
          | (simp [isK] at hk; done)
          | (cases op <;> rfl)
    · rename_i hne
      exact other ha hb (fun l e => by cases e) (fun _ e => hne e) h
  · rename_i h1 h2
    exact other ha hb (fun l e => absurd e (h1 l)) (fun e => absurd e (by first | exact h2 | exact fun e => h2 e)) h

theorem bin_eql {a b : Value} (h1 : ∀ j x k y, a = .int j x → b ≠ .int k y) (h2 : ∀ x y, a = .string x → b ≠ .string y) (h3 : ∀ j x k y, a = .float j x → b ≠ .float k y) (h4 : ∀ j x z k y u, a = .complex j x z → b ≠ .complex k y u) (t : TypeId) :
    binOp .eql t a b = (do pure (.bool (← Op.equal t a b))) ∧ binOp .neq t a b = (do pure (.bool (!(← Op.equal t a b)))) := by
  cases a <;> cases b <;> first
    | exact ⟨rfl, rfl⟩
    | exact absurd rfl (h1 _ _ _ _ rfl)
    | exact absurd rfl (h2 _ _ rfl)
    | exact absurd rfl (h3 _ _ _ _ rfl)
    | exact absurd rfl (h4 _ _ _ _ _ _ rfl)

/-- Two values that are not two numbers and not two texts. -/
theorem den_pair {a b : SV} (h1 : ∀ j x k y, a = .int j x → b ≠ .int k y) (h2 : ∀ x y, a = .str x → b ≠ .str y) (t : TypeId) (R : Rho) :
    binOp .eql t (den R a) (den R b) = (do pure (.bool (← Op.equal t (den R a) (den R b)))) ∧ binOp .neq t (den R a) (den R b) = (do pure (.bool (!(← Op.equal t (den R a) (den R b))))) := by
  have ki : ∀ (c : SV) j x, den R c = .int j x → ∃ k y, c = .int k y := fun c j x e => by
    cases c <;> first | (simp only [den, undef] at e; cases e; done) | exact ⟨_, _, rfl⟩ | (rename_i t; cases t <;> (simp only [den, undef] at e; cases e))
  have ks : ∀ (c : SV) x, den R c = .string x → ∃ y, c = .str y := fun c x e => by
    cases c <;> first | (simp only [den, undef] at e; cases e; done) | exact ⟨_, rfl⟩ | (rename_i t; cases t <;> (simp only [den, undef] at e; cases e))
  have kf : ∀ (c : SV) j x, den R c ≠ .float j x := fun c j x e => by
    cases c <;> first | (simp only [den, undef] at e; cases e; done) | (rename_i t; cases t <;> (simp only [den, undef] at e; cases e))
  have kc : ∀ (c : SV) j x y, den R c ≠ .complex j x y := fun c j x y e => by
    cases c <;> first | (simp only [den, undef] at e; cases e; done) | (rename_i t; cases t <;> (simp only [den, undef] at e; cases e))
  refine bin_eql (fun j x k y e1 e2 => ?_) (fun x y e1 e2 => ?_) (fun j x _ _ e => absurd e (kf a j x)) (fun j x y _ _ _ e => absurd e (kc a j x y)) t
  · obtain ⟨_, _, rfl⟩ := ki a _ _ e1
    obtain ⟨_, _, rfl⟩ := ki b _ _ e2
    exact h1 _ _ _ _ rfl rfl
  · obtain ⟨_, rfl⟩ := ks a _ e1
    obtain ⟨_, rfl⟩ := ks b _ e2
    exact h2 _ _ rfl rfl

theorem binS_ok {t : TypeId} {op : BinOp} {x y : Operand} {a b v : SV} {N : Nat} (ha : a.bel N) (hb : b.bel N) (h : binS P t op (isK x || isK y) a b = some v) (R : Rho) (w : World) :
    (do eqGuard op t x y (den R a) (den R b); binOp op t (den R a) (den R b) : Sem Value).run P w = .ok (den R v) w ∧ v.bel 0 := by
  unfold binS at h
  split at h
  · rename_i j x' i y'
    have g := guard_int (P := P) (w := w) op t x y j i x' y'
    simp only [den, Sem.run_bind, g, Result.andThen_ok]
    split at h
    · exact shiftOp_ok h (.inl rfl) t R w
    · exact shiftOp_ok h (.inr rfl) t R w
    · rename_i h1 h2
      cases hk : beqK j i with
      | false => simp only [hk, cond_false] at h; cases h
      | true =>
        simp only [hk, cond_true] at h
        have := beqK_eq hk
        subst this
        exact intOp_ok (by simpa using h1) (by simpa using h2) h t R w
  · rename_i x' y'
    have g := guard_str (P := P) (w := w) op t x y ⟨x'.toArray⟩ ⟨y'.toArray⟩
    simp only [den, Sem.run_bind, g, Result.andThen_ok]
    exact strOp_ok h t R w
  · rename_i h1 h2
    obtain ⟨p1, p2⟩ := den_pair (a := a) (b := b) (fun j x k y e1 e2 => h1 j x k y e1 e2) (fun x y e1 e2 => h2 x y e1 e2) t R
    split at h
    · cases he : eqS P t (isK x || isK y) a b with
      | none => simp only [he] at h; cases h
      | some e =>
        simp only [he, Option.some.injEq] at h
        subst h
        obtain ⟨g1, g2⟩ := eqS_ok ha hb he .eql R w
        refine ⟨?_, trivial⟩
        rw [p1]
        simp only [Sem.run_bind, g1, g2, Result.andThen_ok, Sem.run_pure]
        rfl
    · cases he : eqS P t (isK x || isK y) a b with
      | none => simp only [he] at h; cases h
      | some e =>
        simp only [he, Option.some.injEq] at h
        subst h
        obtain ⟨g1, g2⟩ := eqS_ok ha hb he .neq R w
        refine ⟨?_, trivial⟩
        rw [p2]
        simp only [Sem.run_bind, g1, g2, Result.andThen_ok, Sem.run_pure]
        rfl
    · cases h
end Go.Ev
namespace Go.Ev
variable {P : Program} {R : Rho} {m : Mem} {w : World}

/-- The operands' values. -/
def Opd (R : Rho) (N : Nat) (ρ : Operand → Option SV) (σ : Operand → Value) : Prop := ∀ x v, ρ x = some v → σ x = den R v ∧ v.bel N
def NxVal (P : Program) (R : Rho) (m : Mem) (w : World) (s : Sem Next) (v : SV) (m' : Mem) : Prop :=
  ∃ R' w', (s.run P w = .ok (.value (den R' v)) w' ∨ s.run P w = .ok .skip w' ∧ v = .und) ∧ Post P R m w R' m' w' ∧ v.bel m'.nxt

theorem VM.nx {s : Sem Value} {v : SV} {m' : Mem} (h : VM P R m w s v m') : NxVal P R m w (do pure (.value (← s))) v m' := by
  obtain ⟨R', w', h1, h2, h3⟩ := h
  exact ⟨R', w', .inl (by simp only [Sem.run_bind, h1, Result.andThen_ok, Sem.run_pure]), h2, h3⟩
theorem Val.nx {s : Sem Value} {v : SV} (h : Val P R m w s v) (hr : Rel P R m w) : NxVal P R m w (do pure (.value (← s))) v m := (h.vm hr).nx
theorem unit_nx {s : Sem Unit} {m' : Mem} (h : ∃ w', s.run P w = .ok () w' ∧ Post P R m w R m' w') : NxVal P R m w (do s; pure .skip) .und m' := by
  obtain ⟨w', h1, h2⟩ := h
  exact ⟨R, w', .inr ⟨by simp only [Sem.run_bind, h1, Result.andThen_ok, Sem.run_pure], rfl⟩, h2, trivial⟩
theorem pure_nx {v : SV} {x : Value} (hr : Rel P R m w) (hx : x = den R v) (hv : v.bel m.nxt) : NxVal P R m w (pure (.value x)) v m :=
  ⟨R, w, .inl (by rw [hx]; rfl), Post.refl hr, hv⟩

theorem vOf_eq {o : Option SV} {v : SV} {m' : Mem} (h : vOf m o = .val v m') : o = some v ∧ m' = m := by
  cases o with
  | none => cases h
  | some x => simp only [vOf, Nx.val.injEq] at h; exact ⟨by rw [h.1], h.2.symm⟩
theorem vmOf_eq {o : Option (SV × Mem)} {v : SV} {m' : Mem} (h : vmOf o = .val v m') : o = some (v, m') := by
  cases o with
  | none => cases h
  | some x => simp only [vmOf, Nx.val.injEq] at h; rw [← h.1, ← h.2]
theorem mOf_eq {o : Option Mem} {v : SV} {m' : Mem} (h : mOf o = .val v m') : o = some m' ∧ v = .und := by
  cases o with
  | none => cases h
  | some x => simp only [mOf, Nx.val.injEq] at h; exact ⟨by rw [h.2], h.1.symm⟩
theorem w1_eq {o : Option SV} {f : SV → Nx} {v : SV} {m' : Mem} (h : w1 o f = .val v m') : ∃ x, o = some x ∧ f x = .val v m' := by
  cases o with
  | none => cases h
  | some x => exact ⟨x, rfl, h⟩

theorem oparts_ok {ρ : Operand → Option SV} {σ : Operand → Value} {N : Nat} (hρ : Opd R N ρ σ) : ∀ {ps : List (Nat × Operand)} {l : List (Nat × SV)}, oparts ρ ps = some l →
    (ps.map fun p => (p.1, σ p.2)) = l.map (fun p => (p.1, den R p.2)) ∧ ∀ p ∈ l, p.2.bel N
  | [], l, h => by
    simp only [oparts, Option.some.injEq] at h
    subst h
    exact ⟨rfl, fun _ h => by cases h⟩
  | x :: ps, l, h => by
    simp only [oparts] at h
    cases hx : ρ x.2 with
    | none => simp only [hx] at h; cases h
    | some v =>
      simp only [hx] at h
      cases hr : oparts ρ ps with
      | none => simp only [hr] at h; cases h
      | some r =>
        simp only [hr, Option.some.injEq] at h
        subst h
        obtain ⟨k1, k2⟩ := oparts_ok hρ hr
        obtain ⟨e1, e2⟩ := hρ _ _ hx
        refine ⟨by simp [k1, e1], fun p hp => ?_⟩
        rcases List.mem_cons.1 hp with rfl | hp
        · exact e2
        · exact k2 p hp
theorem oall_ok {ρ : Operand → Option SV} {σ : Operand → Value} {N : Nat} (hρ : Opd R N ρ σ) : ∀ {xs : List Operand} {l : List SV}, oall ρ xs = some l → xs.map σ = l.map (den R) ∧ ∀ v ∈ l, v.bel N
  | [], l, h => by
    simp only [oall, Option.some.injEq] at h
    subst h
    exact ⟨rfl, fun _ h => by cases h⟩
  | x :: xs, l, h => by
    simp only [oall] at h
    cases hx : ρ x with
    | none => simp only [hx] at h; cases h
    | some v =>
      simp only [hx] at h
      cases hr : oall ρ xs with
      | none => simp only [hr] at h; cases h
      | some r =>
        simp only [hr, Option.some.injEq] at h
        subst h
        obtain ⟨k1, k2⟩ := oall_ok hρ hr
        obtain ⟨e1, e2⟩ := hρ _ _ hx
        refine ⟨by simp [k1, e1], fun p hp => ?_⟩
        rcases List.mem_cons.1 hp with rfl | hp
        · exact e2
        · exact k2 p hp
theorem oopt_ok {ρ : Operand → Option SV} {σ : Operand → Value} {N : Nat} (hρ : Opd R N ρ σ) {x : Option Operand} {o : Option SV} (h : oopt ρ x = some o) : x.map σ = o.map (den R) := by
  cases x with
  | none => simp only [oopt, Option.some.injEq] at h; subst h; rfl
  | some x =>
    simp only [oopt] at h
    cases hx : ρ x with
    | none => simp only [hx] at h; cases h
    | some v =>
      simp only [hx, Option.some.injEq] at h
      subst h
      simp [(hρ _ _ hx).1]

theorem next_ok (h : Rel P R m w) {x : SV} {q : SV × Mem} (hx : x.bel m.nxt) (hs : nextS x m = some q) (ty : TypeId) : VM P R m w (Instr.next (den R x) true ty) q.1 q.2 := by
  unfold nextS at hs
  split at hs
  · rename_i nm off
    split at hs
    · rename_i s pos hg
      have hb : w.heap[R.b nm]? = some (.stringIter ⟨s.toArray⟩ pos) := h.blk nm _ hx hg
      have hget : (getObj (R.b nm)).run P w = .ok (.stringIter ⟨s.toArray⟩ pos) w := by simp [getObj, Sem.run, hb]
      have hlt : R.b nm < w.heap.size := (Array.getElem?_eq_some_iff.1 hb).1
      cases hp : Nat.blt pos s.length with
      | false =>
        simp only [hp, cond_false, Option.some.injEq] at hs
        subst hs
        have hp' : ¬ pos < s.length := fun hh => by rw [blt_t hh] at hp; cases hp
        refine ⟨R, w, ?_, Post.refl h, trivial, trivial⟩
        simp only [den, Instr.next, Sem.run_bind, hget, Result.andThen_ok, ba_size, if_neg hp']
        rfl
      | true =>
        simp only [hp, cond_true, Option.some.injEq] at hs
        subst hs
        have hp' : pos < s.length := by simpa using hp
        have hset : ∀ o, (setObj (R.b nm) o).run P w = .ok () { w with heap := w.heap.setIfInBounds (R.b nm) o } := fun o => by simp [setObj, Sem.run, hb]
        refine ⟨R, _, ?_, h.upd hx (by rw [hg]; exact fun e => by cases e) (.strI s (pos + (Utf8.decode ⟨s.toArray⟩ pos).2)) (w.heap.setIfInBounds (R.b nm) (.stringIter ⟨s.toArray⟩ (pos + (Utf8.decode ⟨s.toArray⟩ pos).2))) trivial (by simp) (fun j hj => Array.getElem?_setIfInBounds_ne (Ne.symm hj)) (by simp [hlt, blkRel]), trivial, trivial, trivial, trivial⟩
        simp only [den, Instr.next, Sem.run_bind, hget, Result.andThen_ok, ba_size, if_pos hp', hset, Sem.run_pure]
        rfl
    · cases hs
  · cases hs
end Go.Ev
namespace Go.Ev
variable {P : Program} {R : Rho} {m : Mem} {w : World} {ρ : Operand → Option SV} {σ : Operand → Value} {v : SV} {m' : Mem} {dst : Option Tmp} {ty : TypeId} {pos : String} {aft : Array Edge} {grd : Option (Nat × Bool)}

theorem newObj_ok (h : Rel P R m w) (hl : m.nxt < 32768) (b : Blk) (o : Obj) (hb : b.ok (m.nxt + 1)) (hr : ∀ R', blkRel P R' m.nxt b (some o)) :
    ∃ R' w', (newObj o).run P w = .ok (R'.b m.nxt) w' ∧ Post P R m w R' (m.new b) w' := by
  obtain ⟨R', h1, _, h3⟩ := h.new hl b o 0 hb (fun R' _ _ _ => hr R')
  exact ⟨R', _, by rw [h1]; rfl, h3⟩

theorem op_makeInterface (h : Rel P R m w) (hρ : Opd R m.nxt ρ σ) {t : TypeId} {x : Operand} (hs : opS P (.makeInterface t x) ρ m = .val v m') : NxVal P R m w (execOp σ ⟨dst, .makeInterface t x, ty, pos, aft, grd⟩) v m' := by
  simp only [opS] at hs
  cases hu : P.underlying t with
  | none => simp only [hu] at hs; cases hs
  | some D =>
    cases D <;> first
      | (simp only [hu] at hs; cases hs; done)
      | (simp only [hu] at hs
         obtain ⟨u, e1, hs⟩ := w1_eq hs
         obtain ⟨k1, k2⟩ := hρ _ _ e1
         simp only [Nx.val.injEq] at hs
         obtain ⟨rfl, rfl⟩ := hs
         exact ⟨R, w, .inl (by simp only [execOp, Instr.makeInterface, Sem.run_bind, run_underlying hu, Result.andThen_ok, Sem.run_pure, k1]; rfl), Post.refl h, k2⟩)

theorem op_makeMap (h : Rel P R m w) {t : TypeId} {r : Option Operand} (hs : opS P (.makeMap t r) ρ m = .val v m') : NxVal P R m w (execOp σ ⟨dst, .makeMap t r, ty, pos, aft, grd⟩) v m' := by
  cases r with
  | some r => cases hs
  | none =>
    simp only [opS] at hs
    cases hl : Nat.blt m.nxt 32768 with
    | false => simp only [hl, cond_false] at hs; cases hs
    | true =>
      simp only [hl, cond_true, Nx.val.injEq] at hs
      obtain ⟨rfl, rfl⟩ := hs
      obtain ⟨R', w', j1, j2⟩ := newObj_ok h (by simpa using hl) (.map [] 0) (.map #[] 0) (fun e he => by cases he) (fun R' => rfl)
      exact ⟨R', w', .inl (by simp only [execOp, Instr.makeMap, Option.map_none, Sem.run_bind, j1, Result.andThen_ok, Sem.run_pure]; rfl), j2, Nat.lt_succ_self _⟩

theorem op_range (h : Rel P R m w) (hρ : Opd R m.nxt ρ σ) {t : TypeId} {x : Operand} (hs : opS P (.range t x) ρ m = .val v m') : NxVal P R m w (execOp σ ⟨dst, .range t x, ty, pos, aft, grd⟩) v m' := by
  simp only [opS] at hs
  cases hu : P.underlying t with
  | none => simp only [hu] at hs; cases hs
  | some D =>
    cases D <;> first
      | (simp only [hu] at hs; cases hs; done)
      | skip
    simp only [hu] at hs
    obtain ⟨u, e1, hs⟩ := w1_eq hs
    obtain ⟨k1, k2⟩ := hρ _ _ e1
    cases u <;> first | (cases hs; done) | skip
    rename_i s
    cases hl : Nat.blt m.nxt 32768 with
    | false => simp only [hl, cond_false] at hs; cases hs
    | true =>
      simp only [hl, cond_true, Nx.val.injEq] at hs
      obtain ⟨rfl, rfl⟩ := hs
      obtain ⟨R', w', j1, j2⟩ := newObj_ok h (by simpa using hl) (.strI s 0) (.stringIter ⟨s.toArray⟩ 0) trivial (fun R' => rfl)
      exact ⟨R', w', .inl (by simp only [execOp, Instr.range, k1, den, Sem.run_bind, run_underlying hu, j1, Result.andThen_ok, Sem.run_pure]), j2, Nat.lt_succ_self _⟩

theorem op_slice (h : Rel P R m w) (hρ : Opd R m.nxt ρ σ) {t : TypeId} {x : Operand} {lo hi mx : Option Operand} (hs : opS P (.slice t x lo hi mx) ρ m = .val v m') : NxVal P R m w (execOp σ ⟨dst, .slice t x lo hi mx, ty, pos, aft, grd⟩) v m' := by
  simp only [opS] at hs
  obtain ⟨u, e1, hs⟩ := w1_eq hs
  obtain ⟨k1, k2⟩ := hρ _ _ e1
  cases hl : oopt ρ lo with
  | none => simp only [hl] at hs; cases hs
  | some l =>
    cases hh : oopt ρ hi with
    | none => simp only [hl, hh] at hs; cases hs
    | some h' =>
      cases hk : oopt ρ mx with
      | none => simp only [hl, hh, hk] at hs; cases hs
      | some k =>
        simp only [hl, hh, hk] at hs
        obtain ⟨e3, rfl⟩ := vOf_eq hs
        have := (slice_ok h k2 e3).nx h
        rw [← k1, ← oopt_ok hρ hl, ← oopt_ok hρ hh, ← oopt_ok hρ hk] at this
        exact this

theorem op_fieldAddr (h : Rel P R m w) (hρ : Opd R m.nxt ρ σ) {t : TypeId} {x : Operand} {i : Nat} (hs : opS P (.fieldAddr t x i) ρ m = .val v m') : NxVal P R m w (execOp σ ⟨dst, .fieldAddr t x i, ty, pos, aft, grd⟩) v m' := by
  simp only [opS] at hs
  cases hf : fieldP P t i with
  | none => simp only [hf] at hs; cases hs
  | some f =>
    simp only [hf] at hs
    cases hz : (Nat.beq (P.cellsOf f.type) 0 || !okE P f.type) with
    | true => simp only [hz, cond_true] at hs; cases hs
    | false =>
      simp only [hz, cond_false] at hs
      obtain ⟨u, e1, hs⟩ := w1_eq hs
      obtain ⟨k1, k2⟩ := hρ _ _ e1
      cases u <;> first | (cases hs; done) | skip
      rename_i nm off
      simp only [Nx.val.injEq] at hs
      obtain ⟨rfl, rfl⟩ := hs
      have := (fieldAddr_ok (off := off) hf hz k2 (R := R) (w := w)).nx h
      simp only [den] at k1
      rw [← k1] at this
      exact this

theorem op_field (h : Rel P R m w) (hρ : Opd R m.nxt ρ σ) {t : TypeId} {x : Operand} {i : Nat} (hs : opS P (.field t x i) ρ m = .val v m') : NxVal P R m w (execOp σ ⟨dst, .field t x i, ty, pos, aft, grd⟩) v m' := by
  simp only [opS] at hs
  cases hf : fieldP P t i with
  | none => simp only [hf] at hs; cases hs
  | some f =>
    simp only [hf] at hs
    obtain ⟨u, e1, hs⟩ := w1_eq hs
    obtain ⟨k1, k2⟩ := hρ _ _ e1
    cases u <;> first | (cases hs; done) | skip
    rename_i cs
    obtain ⟨e3, rfl⟩ := vOf_eq hs
    have := (field_ok (cs := cs) hf k2 e3 (R := R) (w := w)).nx h
    rw [← k1] at this
    exact this

theorem op_makeFunc (h : Rel P R m w) (hρ : Opd R m.nxt ρ σ) {f : Fn} {a c : Array Operand} (hs : opS P (.makeFunc f a c) ρ m = .val v m') : NxVal P R m w (execOp σ ⟨dst, .makeFunc f a c, ty, pos, aft, grd⟩) v m' := by
  simp only [opS] at hs
  cases f with
  | func g =>
    simp only at hs
    cases ha : oall ρ a.toList with
    | none => simp only [ha, wl] at hs; cases hs
    | some la =>
      cases hc : oall ρ c.toList with
      | none => simp only [ha, hc, wl] at hs; cases hs
      | some lc =>
        simp only [ha, hc, wl, Nx.val.injEq] at hs
        obtain ⟨rfl, rfl⟩ := hs
        obtain ⟨a1, a2⟩ := oall_ok hρ ha
        obtain ⟨c1, c2⟩ := oall_ok hρ hc
        have ea : a.map σ = (la.map (den R)).toArray := by rw [← a1, ← Array.toList_map, Array.toArray_toList]
        have ec : c.map σ = (lc.map (den R)).toArray := by rw [← c1, ← Array.toList_map, Array.toArray_toList]
        refine ⟨R, w, .inl ?_, Post.refl h, bel_ofL a2, bel_ofL c2⟩
        simp only [execOp, Instr.makeFunc, ea, ec, Sem.run_bind, Sem.run_pure, Result.andThen_ok, den, denL_toL, SV.toL_ofL]
  | method name =>
    simp only at hs
    split at hs
    · rename_i x ha hc
      obtain ⟨u, e1, hs⟩ := w1_eq hs
      obtain ⟨k1, k2⟩ := hρ _ _ e1
      cases u <;> first | (cases hs; done) | skip
      simp only [Nx.val.injEq] at hs
      obtain ⟨rfl, rfl⟩ := hs
      have ea : a.map σ = #[σ x] := by rw [← Array.toArray_toList (xs := a), ha]; simp
      have ec : c.map σ = #[] := by rw [← Array.toArray_toList (xs := c), hc]; simp
      exact ⟨R, w, .inl (by simp only [execOp, Instr.makeFunc, ea, ec, k1, Sem.run_bind, Sem.run_pure, Result.andThen_ok, den]), Post.refl h, k2⟩
    · cases hs
  | via t path g p =>
    simp only at hs
    split at hs
    · rename_i x ha hc
      obtain ⟨u, e1, hs⟩ := w1_eq hs
      obtain ⟨k1, k2⟩ := hρ _ _ e1
      simp only [Nx.val.injEq] at hs
      obtain ⟨rfl, rfl⟩ := hs
      have ea : a.map σ = #[σ x] := by rw [← Array.toArray_toList (xs := a), ha]; simp
      have ec : c.map σ = #[] := by rw [← Array.toArray_toList (xs := c), hc]; simp
      exact ⟨R, w, .inl (by simp only [execOp, Instr.makeFunc, ea, ec, k1, Sem.run_bind, Sem.run_pure, Result.andThen_ok, den, Array.toArray_toList]), Post.refl h, k2⟩
    · cases hs
  | _ => cases hs

theorem nilMth_ok {name : String} {t : TypeId} {y : SV} (h : nilMth P (.mth name t y) = true) (R : Rho) (w : World) (n : Nat) : (nilAhead (n + 1) t (den R y) name).run P w = .ok (some false) w := by
  simp only [nilMth] at h
  cases hi : P.info? t with
  | none => simp only [hi] at h; cases h
  | some i =>
    simp only [hi] at h
    cases hf : i.methods.find? (·.name == name) with
    | none => simp only [hf] at h; cases h
    | some me =>
      simp only [hf] at h
      cases hp : me.path.toList with
      | cons a l => simp only [hp] at h; cases h
      | nil =>
        simp only [hp] at h
        cases hfn : me.func with
        | none => simp only [hfn] at h; cases h
        | some fp =>
          obtain ⟨f, pr⟩ := fp
          simp only [hfn] at h
          cases pr with
          | true => simp only [nilAhead, Sem.run_bind, run_typeInfo w hi, Result.andThen_ok, hf, hp, followBlind, Sem.run_pure, hfn]
          | false =>
            simp only at h
            cases hu : P.underlying t with
            | none => simp only [hu] at h; cases h
            | some D =>
              cases D <;> first
                | (simp only [nilAhead, Sem.run_bind, run_typeInfo w hi, Result.andThen_ok, hf, hp, followBlind, Sem.run_pure, hfn, run_underlying hu]; done)
                | (simp only [hu] at h
                   cases y <;> first
                     | (cases h; done)
                     | (simp only [nilAhead, Sem.run_bind, run_typeInfo w hi, Result.andThen_ok, hf, hp, followBlind, Sem.run_pure, hfn, run_underlying hu, den]; done))
theorem op_nilCheck (h : Rel P R m w) (hρ : Opd R m.nxt ρ σ) {x : Operand} (hs : opS P (.nilCheck x) ρ m = .val v m') : NxVal P R m w (execOp σ ⟨dst, .nilCheck x, ty, pos, aft, grd⟩) v m' := by
  obtain ⟨u, e1, hs⟩ := w1_eq hs
  obtain ⟨k1, k2⟩ := hρ _ _ e1
  cases hn : nilOk u with
  | true =>
    simp only [hn, Bool.true_or, cond_true, Nx.val.injEq] at hs
    obtain ⟨rfl, rfl⟩ := hs
    refine ⟨R, w, .inl ?_, Post.refl h, k2⟩
    cases u <;> first | (cases hn; done) | (simp only [execOp, k1, den]; rfl) | skip
    rename_i t
    cases t <;> first | (cases hn; done) | (simp only [execOp, k1, den]; rfl)
  | false =>
    cases hm : nilMth P u with
    | false => simp only [hn, hm, Bool.or_self, cond_false] at hs; cases hs
    | true =>
      simp only [hn, hm, Bool.or_true, cond_true, Nx.val.injEq] at hs
      obtain ⟨rfl, rfl⟩ := hs
      refine ⟨R, w, .inl ?_, Post.refl h, k2⟩
      cases u <;> first | (cases hm; done) | skip
      rename_i name t y
      have hd : P.types.size + Made.depth = (P.types.size + Made.depth - 1) + 1 := by
        have : 0 < Made.depth := by decide
        omega
      have := nilMth_ok hm R w (P.types.size + Made.depth - 1)
      rw [← hd] at this
      have e0 : (#[Value.iface t (den R y)] : Array Value)[0]? = some (.iface t (den R y)) := rfl
      simp only [execOp, k1, den, e0, Sem.run_bind, run_program, Result.andThen_ok, this]
      rfl

theorem op_two {f : Value → Value → Sem Value} {g : SV → SV → Option SV} (h : Rel P R m w) (hρ : Opd R m.nxt ρ σ) {x y : Operand} (hl : ∀ a b v, a.bel m.nxt → b.bel m.nxt → g a b = some v → Val P R m w (f (den R a) (den R b)) v)
    (hs : (w1 (ρ x) fun a => w1 (ρ y) fun b => vOf m (g a b)) = .val v m') : NxVal P R m w (do pure (.value (← f (σ x) (σ y)))) v m' := by
  obtain ⟨u, e1, hs⟩ := w1_eq hs
  obtain ⟨y', e2, hs⟩ := w1_eq hs
  obtain ⟨k1, k2⟩ := hρ _ _ e1
  obtain ⟨j1, j2⟩ := hρ _ _ e2
  obtain ⟨e3, rfl⟩ := vOf_eq hs
  have := (hl _ _ _ k2 j2 e3).nx h
  rw [← k1, ← j1] at this
  exact this
end Go.Ev
namespace Go.Ev
variable {P : Program} {R : Rho} {m : Mem} {w : World}

set_option maxHeartbeats 4000000 in
theorem op_ok (h : Rel P R m w) {ρ : Operand → Option SV} {σ : Operand → Value} (hρ : Opd R m.nxt ρ σ) {o : Oper} {v : SV} {m' : Mem} (hc : ∀ c, o.op ≠ .call c) (hs : opS P o.op ρ m = .val v m') :
    NxVal P R m w (execOp σ o) v m' := by
  obtain ⟨dst, op, ty, pos, aft, grd⟩ := o
  cases op with
  | move x =>
    obtain ⟨e1, rfl⟩ := vOf_eq hs
    obtain ⟨k1, k2⟩ := hρ _ _ e1
    exact pure_nx h k1 k2
  | assign x =>
    obtain ⟨e1, rfl⟩ := vOf_eq hs
    obtain ⟨k1, k2⟩ := hρ _ _ e1
    exact pure_nx h k1 k2
  | pick c a b =>
    obtain ⟨u, e1, hs⟩ := w1_eq hs
    cases u <;> first | (cases hs; done) | skip
    rename_i t
    obtain ⟨k1, _⟩ := hρ _ _ e1
    cases t with
    | true =>
      obtain ⟨e2, rfl⟩ := vOf_eq hs
      obtain ⟨j1, j2⟩ := hρ _ _ e2
      exact ⟨R, w, .inl (by simp [execOp, k1, den, asBool, j1]), Post.refl h, j2⟩
    | false =>
      obtain ⟨e2, rfl⟩ := vOf_eq hs
      obtain ⟨j1, j2⟩ := hρ _ _ e2
      exact ⟨R, w, .inl (by simp [execOp, k1, den, asBool, j1]), Post.refl h, j2⟩
  | alloc e =>
    simp only [opS] at hs
    cases hz : zeroRp P e with
    | none => simp only [hz] at hs; cases hs
    | some r =>
      simp only [hz] at hs
      cases hl : Nat.blt m.nxt 32768 with
      | false => simp only [hl, cond_false] at hs; cases hs
      | true =>
        simp only [hl, cond_true, Nx.val.injEq] at hs
        obtain ⟨rfl, rfl⟩ := hs
        exact (alloc_ok h hz (by simpa using hl)).nx
  | box e x =>
    obtain ⟨u, e1, hs⟩ := w1_eq hs
    obtain ⟨k1, k2⟩ := hρ _ _ e1
    cases hc : (u.nc && Nat.blt m.nxt 32768) with
    | false => simp only [hc, cond_false] at hs; cases hs
    | true =>
      simp only [hc, cond_true, Nx.val.injEq] at hs
      obtain ⟨rfl, rfl⟩ := hs
      have := (box_ok h k2 hc (e := e)).nx
      rw [← k1] at this
      exact this
  | build t ps =>
    simp only [opS] at hs
    cases hp : oparts ρ ps.toList with
    | none => simp only [hp] at hs; cases hs
    | some l =>
      simp only [hp] at hs
      obtain ⟨e1, rfl⟩ := vOf_eq hs
      obtain ⟨k1, k2⟩ := oparts_ok hρ hp
      exact (buildS_ok k2 e1 (ps.map fun (i, x) => (i, σ x)) (by simpa using k1)).nx h
  | buildSlice t n ps =>
    simp only [opS] at hs
    cases hp : oparts ρ ps.toList with
    | none => simp only [hp] at hs; cases hs
    | some l =>
      simp only [hp] at hs
      have e1 := vmOf_eq hs
      obtain ⟨k1, k2⟩ := oparts_ok hρ hp
      exact (buildSl_ok h k2 e1 (ps.map fun (i, x) => (i, σ x)) (by simpa using k1)).nx
  | load t a =>
    obtain ⟨u, e1, hs⟩ := w1_eq hs
    obtain ⟨k1, k2⟩ := hρ _ _ e1
    cases u <;> first | (cases hs; done) | skip
    obtain ⟨e2, rfl⟩ := vOf_eq hs
    obtain ⟨j1, j2⟩ := load_ok h k2 e2
    have := Val.nx (P := P) (R := R) (w := w) ⟨j1, j2⟩ h
    simp only [den] at k1
    rw [← k1] at this
    exact this
  | store t a x =>
    obtain ⟨u, e1, hs⟩ := w1_eq hs
    obtain ⟨y, e2, hs⟩ := w1_eq hs
    obtain ⟨k1, k2⟩ := hρ _ _ e1
    obtain ⟨j1, j2⟩ := hρ _ _ e2
    cases u <;> first | (cases hs; done) | skip
    obtain ⟨e3, rfl⟩ := mOf_eq hs
    have := unit_nx (store_ok h k2 j2 e3)
    simp only [den] at k1
    rw [← k1, ← j1] at this
    exact this
  | nilCheck x => exact op_nilCheck h hρ hs
  | binOp op t x y yt =>
    obtain ⟨u, e1, hs⟩ := w1_eq hs
    obtain ⟨y', e2, hs⟩ := w1_eq hs
    obtain ⟨k1, k2⟩ := hρ _ _ e1
    obtain ⟨j1, j2⟩ := hρ _ _ e2
    obtain ⟨e3, rfl⟩ := vOf_eq hs
    obtain ⟨q1, q2⟩ := binS_ok k2 j2 e3 R w
    have := Val.nx (P := P) (R := R) (w := w) ⟨q1, SV.bel_mono (Nat.zero_le _) _ q2⟩ h
    rw [← k1, ← j1] at this
    exact this
  | unOp op t x =>
    obtain ⟨u, e1, hs⟩ := w1_eq hs
    obtain ⟨k1, k2⟩ := hρ _ _ e1
    obtain ⟨e3, rfl⟩ := vOf_eq hs
    obtain ⟨q1, q2⟩ := unS_ok (P := P) e3 R w
    have := Val.nx (P := P) (R := R) (w := w) ⟨q1, SV.bel_mono (Nat.zero_le _) _ q2⟩ h
    rw [← k1] at this
    exact this
  | convert s d x =>
    obtain ⟨u, e1, hs⟩ := w1_eq hs
    obtain ⟨k1, k2⟩ := hρ _ _ e1
    have := (convS_ok h k2 (vmOf_eq hs)).nx
    rw [← k1] at this
    exact this
  | makeInterface t x => exact op_makeInterface h hρ hs
  | makeFunc f a c => exact op_makeFunc h hρ hs
  | makeMap t r => exact op_makeMap h hs
  | makeSlice t n c =>
    obtain ⟨u, e1, hs⟩ := w1_eq hs
    obtain ⟨y, e2, hs⟩ := w1_eq hs
    obtain ⟨k1, _⟩ := hρ _ _ e1
    obtain ⟨j1, _⟩ := hρ _ _ e2
    have := (makeSl_ok h (vmOf_eq hs)).nx
    rw [← k1, ← j1] at this
    exact this
  | slice t x lo hi mx => exact op_slice h hρ hs
  | fieldAddr t x i => exact op_fieldAddr h hρ hs
  | field t x i => exact op_field h hρ hs
  | indexAddr t x i => exact op_two (f := fun a b => Instr.indexAt t a b) (g := fun a b => indexAddrS P t a b) h hρ (fun a b v ha _ hv => indexAddr_ok ha hv) hs
  | index t x i => exact op_two (f := fun a b => Instr.index t a b) (g := fun a b => indexS P t a b) h hρ (fun a b v ha _ hv => index_ok ha hv) hs
  | lookup t x k ok => exact op_two (f := fun a b => Instr.lookup t a b ok) (g := fun a b => lookupS P t a b ok m) h hρ (fun a b v ha hb hv => lookup_ok h ha hb hv) hs
  | mapUpdate t x k v' =>
    obtain ⟨u, e1, hs⟩ := w1_eq hs
    obtain ⟨y, e2, hs⟩ := w1_eq hs
    obtain ⟨z, e3, hs⟩ := w1_eq hs
    obtain ⟨k1, k2⟩ := hρ _ _ e1
    obtain ⟨j1, j2⟩ := hρ _ _ e2
    obtain ⟨i1, i2⟩ := hρ _ _ e3
    obtain ⟨e4, rfl⟩ := mOf_eq hs
    have := unit_nx (mapPut_ok h k2 j2 i2 e4)
    rw [← k1, ← j1, ← i1] at this
    exact this
  | insert t x k v' =>
    obtain ⟨u, e1, hs⟩ := w1_eq hs
    obtain ⟨y, e2, hs⟩ := w1_eq hs
    obtain ⟨z, e3, hs⟩ := w1_eq hs
    obtain ⟨k1, k2⟩ := hρ _ _ e1
    obtain ⟨j1, j2⟩ := hρ _ _ e2
    obtain ⟨i1, i2⟩ := hρ _ _ e3
    obtain ⟨e4, rfl⟩ := mOf_eq hs
    have := unit_nx (mapPut_ok h k2 j2 i2 e4)
    rw [← k1, ← j1, ← i1] at this
    exact this
  | range t x => exact op_range h hρ hs
  | next it b =>
    cases b with
    | false => cases hs
    | true =>
      obtain ⟨u, e1, hs⟩ := w1_eq hs
      obtain ⟨k1, k2⟩ := hρ _ _ e1
      have := (next_ok h k2 (vmOf_eq hs) ty).nx
      rw [← k1] at this
      exact this
  | typeAssert x t a ok =>
    obtain ⟨u, e1, hs⟩ := w1_eq hs
    obtain ⟨k1, k2⟩ := hρ _ _ e1
    obtain ⟨e3, rfl⟩ := vOf_eq hs
    have := (assert_ok (R := R) (w := w) (t := t) k2 e3).nx h
    rw [← k1] at this
    exact this
  | extract x i =>
    obtain ⟨u, e1, hs⟩ := w1_eq hs
    obtain ⟨k1, k2⟩ := hρ _ _ e1
    cases u <;> first | (cases hs; done) | skip
    rename_i l
    obtain ⟨e3, rfl⟩ := vOf_eq hs
    have := (extract_ok (l := l) (R := R) (w := w) k2 e3).nx h
    rw [← k1] at this
    exact this
  | call c => exact absurd rfl (hc c)
  | defer c =>
    simp only [opS] at hs
    split at hs
    · obtain ⟨u, e1, hs⟩ := w1_eq hs
      unfold wl at hs
      split at hs
      · cases u <;> cases hs
      · cases hs
    · cases hs
  | panic x =>
    obtain ⟨u, e1, hs⟩ := w1_eq hs
    cases u <;> cases hs
  | _ => cases hs
end Go.Ev
namespace Go.Ev
variable {P : Program} {R : Rho} {m : Mem} {w : World}

def plD (R : Rho) : Pl → Place
  | .inl v => .val (den R v)
  | .inr q => .var ⟨R.b q.1, q.2, none⟩
def plB (N : Nat) : Pl → Prop
  | .inl v => v.bel N
  | .inr q => q.1 < N

theorem loadVar_ok (h : Rel P R m w) {t : TypeId} {nm off : Nat} {v : SV} (hn : nm < m.nxt) (hl : loadS P t m nm off = some v) : (loadVar t ⟨R.b nm, off, none⟩).run P w = .ok (den R v) w ∧ v.bel m.nxt := by
  have := load_ok h hn hl
  simpa only [Instr.loadAt, Instr.sureAddr, Sem.run_bind, Sem.run_pure, Result.andThen_ok] using this
theorem getPl_ok (h : Rel P R m w) {t : TypeId} {x : Pl} {v : SV} (hx : plB m.nxt x) (hg : getPl P t m x = some v) : ((plD R x).get t).run P w = .ok (den R v) w ∧ v.bel m.nxt := by
  cases x with
  | inl u =>
    simp only [getPl, Option.some.injEq] at hg
    subst hg
    exact ⟨rfl, hx⟩
  | inr q => exact loadVar_ok h hx hg

theorem size_pos {e : TypeId} {n : Nat} (h : P.cellsOf e = n + 1) : okE P e = true := by
  unfold okE
  cases hi : P.info? e with
  | none => simp [Program.cellsOf, hi] at h
  | some i => rfl

theorem follow_ok (h : Rel P R m w) : ∀ (path : List FieldStep) (t : TypeId) (x : Pl) (q : TypeId × Pl), plB m.nxt x → followS P m path t x = some q →
    (follow path t (plD R x)).run P w = .ok (q.1, plD R q.2) w ∧ plB m.nxt q.2
  | [], t, x, q, hx, hs => by
    simp only [followS, Option.some.injEq] at hs
    subst hs
    exact ⟨rfl, hx⟩
  | s :: rest, t, x, q, hx, hs => by
    simp only [followS] at hs
    cases hu : P.underlying s.struct with
    | none => simp only [hu] at hs; cases hs
    | some D =>
      cases D <;> first | (simp only [hu] at hs; cases hs; done) | skip
      rename_i fs
      simp only [hu] at hs
      cases hf : fs[s.index]? with
      | none => simp only [hf] at hs; cases hs
      | some f =>
        simp only [hf] at hs
        cases hc : P.cellsOf f.type with
        | zero => simp only [hc] at hs; cases hs
        | succ n =>
          have hE := size_pos hc
          have h0 : ¬ P.cellsOf f.type = 0 := by omega
          have hfp : ∀ nm off, (fieldPlace ⟨R.b nm, off, none⟩ f).run P w = .ok ⟨R.b nm, off + f.offset, none⟩ w := fun nm off => by
            simp only [fieldPlace, Sem.run_bind, okE_run hE, Result.andThen_ok, h0, if_false, Sem.run_pure, add_plain]
          cases hd : s.deref with
          | true =>
            simp only [hc, hd] at hs
            cases hg : getPl P t m x with
            | none => simp only [hg] at hs; cases hs
            | some v =>
              simp only [hg] at hs
              cases v <;> first | (cases hs; done) | skip
              rename_i nm off
              obtain ⟨g1, g2⟩ := getPl_ok h hx hg
              obtain ⟨k1, k2⟩ := follow_ok h rest f.type (.inr (nm, off + f.offset)) q g2 hs
              refine ⟨?_, k2⟩
              simp only [follow, Sem.run_bind, run_underlying hu, Result.andThen_ok, hf, hd, if_true, g1, den, asAddr, Sem.run_pure, hfp]
              exact k1
          | false =>
            simp only [hc, hd] at hs
            cases x with
            | inr p =>
              simp only at hs
              obtain ⟨k1, k2⟩ := follow_ok h rest f.type (.inr (p.1, p.2 + f.offset)) q hx hs
              refine ⟨?_, k2⟩
              simp only [follow, Sem.run_bind, run_underlying hu, Result.andThen_ok, hf, hd, Bool.false_eq_true, if_false, plD, hfp]
              exact k1
            | inl v =>
              cases v <;> first | (cases hs; done) | skip
              rename_i cs
              cases hp : partS P f.type cs.toL f.offset with
              | none => simp only [hp] at hs; cases hs
              | some u =>
                simp only [hp] at hs
                obtain ⟨p1, p2⟩ := part_run (toL_bel cs hx) hp R w
                obtain ⟨k1, k2⟩ := follow_ok h rest f.type (.inl u) q p2 hs
                refine ⟨?_, k2⟩
                simp only [follow, Sem.run_bind, run_underlying hu, Result.andThen_ok, hf, hd, Bool.false_eq_true, if_false, plD, den, denL_toL, p1]
                exact k1

theorem recv_ok (h : Rel P R m w) {pr : Bool} {q : TypeId × Pl} {v : SV} (hx : plB m.nxt q.2) (hs : recvS P m pr q = some v) (wr : Option String) : (receiverAt q.1 (plD R q.2) pr wr).run P w = .ok (den R v) w ∧ v.bel m.nxt := by
  obtain ⟨t, x⟩ := q
  unfold recvS at hs
  cases hu : P.underlying t with
  | none => simp only [hu] at hs; cases pr <;> cases x <;> cases hs
  | some D =>
    simp only [hu] at hs
    cases pr with
    | true =>
      cases x with
      | inl u =>
        cases D <;> first
          | (cases hs; done)
          | (obtain ⟨k1, k2⟩ := getPl_ok h hx hs
             exact ⟨by simp only [receiverAt, Sem.run_bind, run_underlying hu, Result.andThen_ok, k1], k2⟩)
      | inr p =>
        cases D <;> first
          | (simp only [Option.some.injEq] at hs
             subst hs
             exact ⟨by simp only [receiverAt, Sem.run_bind, run_underlying hu, Result.andThen_ok, plD, Sem.run_pure, den], hx⟩)
          | (obtain ⟨k1, k2⟩ := getPl_ok h hx hs
             exact ⟨by simp only [receiverAt, Sem.run_bind, run_underlying hu, Result.andThen_ok, k1], k2⟩)
    | false =>
      cases D <;> first
        | (cases hs; done)
        | (obtain ⟨k1, k2⟩ := getPl_ok h hx hs
           exact ⟨by simp only [receiverAt, Sem.run_bind, run_underlying hu, Result.andThen_ok, k1], k2⟩)

theorem method_ok (h : Rel P R m w) {t : TypeId} {name : String} {v : SV} {q : FuncId × SV} (hv : v.bel m.nxt) (hs : methodS P t name v m = some q) (n : Nat) : (method (n + 1) t (den R v) name).run P w = .ok (q.1, den R q.2) w ∧ q.2.bel m.nxt := by
  unfold methodS at hs
  cases hi : P.info? t with
  | none => simp only [hi] at hs; cases hs
  | some i =>
    simp only [hi] at hs
    cases hf : i.methods.find? (·.name == name) with
    | none => simp only [hf] at hs; cases hs
    | some me =>
      simp only [hf] at hs
      cases hp : followS P m me.path.toList t (.inl v) with
      | none => simp only [hp] at hs; cases hs
      | some p =>
        cases hfn : me.func with
        | none => simp only [hp, hfn] at hs; cases hs
        | some fp =>
          simp only [hp, hfn] at hs
          cases hr : recvS P m fp.2 p with
          | none => simp only [hr] at hs; cases hs
          | some r =>
            simp only [hr, Option.some.injEq] at hs
            subst hs
            obtain ⟨k1, k2⟩ := follow_ok h me.path.toList t (.inl v) p hv hp
            obtain ⟨j1, j2⟩ := recv_ok h k2 hr (if me.path.isEmpty then some ((name.splitOn ".").getLastD name) else none)
            refine ⟨?_, j2⟩
            have k1 : (follow me.path.toList t (.val (den R v))).run P w = .ok (p.1, plD R p.2) w := k1
            simp only [method, Sem.run_bind, run_typeInfo w hi, Result.andThen_ok, hf, k1, hfn, j1, Sem.run_pure]
end Go.Ev
namespace Go.Ev
variable {P : Program} {R : Rho} {m : Mem} {w : World}

theorem at0 {α : Type} {ts : Array α} {t : α} {r : List α} (h : ts.toList = t :: r) : ts[0]? = some t := by rw [← Array.getElem?_toList, h]; rfl
theorem at1 {α : Type} {ts : Array α} {t u : α} {r : List α} (h : ts.toList = t :: u :: r) : ts[1]? = some u := by rw [← Array.getElem?_toList, h]; rfl

theorem builtin_ok (h : Rel P R m w) {b : Builtin} {ts : Array TypeId} {args : List SV} {v : SV} {m' : Mem} (ha : ∀ x ∈ args, x.bel m.nxt) (hs : builtinS P b ts.toList args m = .val v m') (ty : TypeId) (consts : Array Bool) :
    NxVal P R m w (builtin b ts ty consts (args.map (den R)).toArray) v m' := by
  cases b with
  | append =>
    simp only [builtinS] at hs
    split at hs
    · rename_i t u r s x hts
      have h0 := at0 hts
      have h1 := at1 hts
      have hs0 := ha s (by simp)
      have hx0 := ha x (by simp)
      cases hu : P.underlying u with
      | none => simp only [hu] at hs; cases hs
      | some D =>
        have go : ∀ z, z = isIntD D → vmOf (appendS P z t s x m) = .val v m' → NxVal P R m w (builtin .append ts ty consts (List.map (den R) [s, x]).toArray) v m' := fun z hz hq =>
          (appendS_ok h h0 h1 hu hz hs0 hx0 (vmOf_eq hq) ty).nx
        cases D <;> simp only [hu] at hs <;> first
          | exact go true rfl hs
          | exact go false rfl hs
    · cases hs
  | copy =>
    simp only [builtinS] at hs
    split at hs
    · rename_i t r d s hts
      exact (copyS_ok h (ha d (by simp)) (ha s (by simp)) (vmOf_eq hs) ts (at0 hts) ty).nx
    · cases hs
  | len =>
    simp only [builtinS] at hs
    split at hs
    · rename_i t r x hts
      obtain ⟨e1, rfl⟩ := vOf_eq hs
      exact (lenB_ok h (ha x (by simp)) e1 ts (at0 hts) ty).nx h
    · cases hs
  | min =>
    simp only [builtinS] at hs
    split at hs
    · rename_i k x j y
      cases hk : beqK k j with
      | false => simp only [hk, cond_false] at hs; cases hs
      | true =>
        have := beqK_eq hk
        subst this
        simp only [hk, cond_true, Nx.val.injEq] at hs
        obtain ⟨rfl, rfl⟩ := hs
        exact Val.nx (s := Builtin.min_ ts ty #[den R (.int k x), den R (.int k y)]) ⟨minS_ok ts ty R w, trivial⟩ h
    · cases hs
  | max =>
    simp only [builtinS] at hs
    split at hs
    · rename_i k x j y
      cases hk : beqK k j with
      | false => simp only [hk, cond_false] at hs; cases hs
      | true =>
        have := beqK_eq hk
        subst this
        simp only [hk, cond_true, Nx.val.injEq] at hs
        obtain ⟨rfl, rfl⟩ := hs
        exact Val.nx (s := Builtin.max_ ts ty #[den R (.int k x), den R (.int k y)]) ⟨maxS_ok ts ty R w, trivial⟩ h
    · cases hs
  | clear =>
    simp only [builtinS] at hs
    split at hs
    · rename_i t r x hts
      obtain ⟨e1, rfl⟩ := mOf_eq hs
      obtain ⟨w', j1, j2⟩ := clearS_ok h (ha x (by simp)) e1 ts (at0 hts) ty
      have : VM P R m w (Builtin.clear_ ts ty #[den R x]) .und m' := ⟨R, w', by rw [j1, den_und]; rfl, j2, trivial⟩
      exact this.nx
    · cases hs
  | _ => simp only [builtinS] at hs; cases hs

theorem vOf_rec {o : Option SV} : vOf m o ≠ .recover := by cases o <;> exact fun h => by cases h
theorem vmOf_rec {o : Option (SV × Mem)} : vmOf o ≠ .recover := by cases o <;> exact fun h => by cases h
theorem mOf_rec {o : Option Mem} : mOf o ≠ .recover := by cases o <;> exact fun h => by cases h
end Go.Ev
